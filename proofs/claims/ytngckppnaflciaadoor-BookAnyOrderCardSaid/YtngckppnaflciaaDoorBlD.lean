/- tithelaw8.unlike: a walk. -/
import Derived.Test.YtngckppnaflciaaDoorBlC
namespace Go.Proofs.YtngckppnaflciaaDoor
open Go.RowKit Go.Maps

theorem all_snoc {α : Type} (f : α → Bool) {l : List α} {k : Nat} {x : α} (h : l[k]? = some x) : (l.take (k + 1)).all f = ((l.take k).all f && f x) := by
  rw [take_snoc h, List.all_append]; simp
theorem below_far {w : World} {p : Pv} {A : Option Addr} {c : Nat} (h : PvAt w w.heap.size p A c) (hs : p.scale ≠ []) : ∀ a, A = some a → a.block < w.heap.size := fun a ha => by
  cases hsc : p.scale with
  | nil => exact absurd hsc hs
  | cons y r =>
    obtain ⟨b, off, h1, h2, _⟩ := h.row 0 y (by rw [hsc]; rfl)
    rw [ha] at h1; injection h1 with h1; rw [h1]; exact h2

set_option maxRecDepth 100000 in
set_option maxHeartbeats 16000000 in
theorem unlike_any (l : List Pv) (A : Option Addr) (c : Nat) (w : World) (hl : ProvsAt w w.heap.size A l) (hm : l.length ≤ 9223372036854775807) (hI : ∀ p ∈ l, PvW p) :
    Calls Tryd.prog 5 #[.slice A l.length c] w fun e w' => (∃ A' c' l', e = .returned (.slice A' (l' : List Pv).length c') ∧ ProvsAt w' w'.heap.size A' l' ∧ (l'.map idb).Nodup ∧ l'.length ≤ 200 ∧ ∀ p ∈ l', PvW p) ∧ Below w.heap.size w w' := by
  obtain ⟨inf0, hi, jz0, jz1, jz2⟩ := info_parts infoPv
  have HL := Lib.hid hl
  have HI := Lib.hid hI
  clear hl hI
  have end_ : ∀ (W : World) (v : Value) (L : List Pl), RowP w.heap.size W v L → ((L.map (·.1)).map idb).Nodup → L.length ≤ 200 → (∀ x ∈ L, PvW x.1) → Below w.heap.size w W → (∃ A' c' l', Ending.returned v = .returned (.slice A' (l' : List Pv).length c') ∧ ProvsAt W W.heap.size A' l' ∧ (l'.map idb).Nodup ∧ l'.length ≤ 200 ∧ ∀ p ∈ l', PvW p) ∧ Below w.heap.size w W := by
    intro W v L hr hn h2 hw hb
    obtain ⟨A', c', rfl, _, _, _, hp⟩ := hr.provs
    exact ⟨⟨A', c', L.map (·.1), by rw [List.length_map], hp, hn, by rw [List.length_map]; exact h2, fun p hp => by obtain ⟨x, hx, rfl⟩ := List.mem_map.1 hp; exact hw x hx⟩, hb⟩
  have HEND := Lib.hid end_
  clear end_
  go_enter Tryd.func5, Tryd.ntmps5
  go_wp2_with fail
  go_loopw [3, 4, 5] (fun u n i wr => ∃ (k : Nat) (L : List Pl) (y : Int), k ≤ l.length ∧ k ≤ 200 ∧ i = .int .i64 k ∧ n = .int .i64 y ∧ Hid (RowP w.heap.size wr u L) ∧ Hid (((L.map (·.1)).map idb).Nodup) ∧ L.length ≤ k ∧ Hid (∀ x ∈ L, PvW x.1) ∧ Below w.heap.size w wr) (fun _ _ i _ => l.length - (intOf i).toNat)
  case atStart => exact ⟨0, [], 0, Nat.zero_le _, Nat.zero_le _, rfl, rfl, RowP.nil _ _, Lib.hid List.nodup_nil, Nat.le_refl _, Lib.hid (fun x h => by simp at h), Below.refl _ _⟩
  case round =>
    obtain ⟨k, L, y, hk, hk2, rfl, rfl, HROW, HN, hLk, HW, hw0⟩ := hrel
    obtain ⟨w0, rfl⟩ : ∃ x : World, x = wr := ⟨_, rfl⟩
    have z0 := hw0.size
    by_cases hlt : k < l.length
    · have hlt2 : (k : Int) < (l.length : Int) := by omega
      by_cases h200 : k < 200
      · have hlt3 : (k : Int) < 200 := by omega
        obtain ⟨p, hx⟩ : ∃ x, l[k]? = some x := ⟨l[k], List.getElem?_eq_getElem hlt⟩
        have hpw := HI.out p (List.mem_of_getElem? hx)
        obtain ⟨g, off, F, cF, rfl, hg, ca, pa⟩ := HL.out k p hx
        have HCA := Lib.hid (fun W (h : Below w.heap.size w W) j u hj => (h.cell (p := ⟨g, off + k * 15 + j, none⟩) hg).trans (ca j u hj))
        have HPA := Lib.hid pa
        clear hx ca pa
        go_upto_region 6 with fail
        go_cut [4] (fun s4 wx => (∃ x : Int, s4 = .int .i64 x) ∧ Below w0.heap.size w0 wx)
        case first =>
          have a0 : w0.cell? ⟨g, off + k * 15, none⟩ = some (.string p.id) := HCA.out w0 hw0 0 _ rfl
          have a1 : w0.cell? ⟨g, off + k * 15 + 1, none⟩ = some (.string p.key) := HCA.out w0 hw0 1 _ rfl
          have a6 : w0.cell? ⟨g, off + k * 15 + 6, none⟩ = some (.string p.rep) := HCA.out w0 hw0 6 _ rfl
          have a10 : w0.cell? ⟨g, off + k * 15 + 10, none⟩ = some (.slice F p.scale.length cF) := HCA.out w0 hw0 10 _ rfl
          have a11 : w0.cell? ⟨g, off + k * 15 + 11, none⟩ = some (.string p.rule) := HCA.out w0 hw0 11 _ rfl
          go_region_held3 (fun w' => w'.cell? ⟨g, off + k * 15, none⟩ = some (.string p.id) ∧ w'.cell? ⟨g, off + k * 15 + 1, none⟩ = some (.string p.key) ∧ w'.cell? ⟨g, off + k * 15 + 6, none⟩ = some (.string p.rep) ∧ w'.cell? ⟨g, off + k * 15 + 10, none⟩ = some (.slice F p.scale.length cF) ∧ w'.cell? ⟨g, off + k * 15 + 11, none⟩ = some (.string p.rule)) (first | with_reducible exact ⟨a0, a1, a6, a10, a11⟩ | go_keep)
            (fail)
          go_wp2_with fail
          go_meet
          exact ⟨⟨_, rfl⟩, by (repeat' (first | with_reducible exact Below.refl _ _ | with_reducible assumption | with_reducible refine Below.drew ?_ | with_reducible refine below_drewN ?_ _ | with_reducible refine Below.setCell ?_ ?_ _ | with_reducible refine Below.alloc ?_ ?_ _ | omega | (simp; done) | (simp; omega)))⟩
        case rest =>
          obtain ⟨⟨x, rfl⟩, hbc⟩ := hcut
          obtain ⟨w1, rfl⟩ : ∃ x : World, x = wc := ⟨_, rfl⟩
          have hw1 : Below w.heap.size w w1 := stepH hw0 hbc
          have HROW := Lib.hid (HROW.out.step hbc)
          have z1 := hw1.size
          clear hbc hw0 z0
          by_cases hx4 : 40000 < x
          · go_wp2_with fail
            go_ret
            exact HEND.out _ _ L HROW.out HN.out (by omega) HW.out hw1
          · obtain ⟨A3, c3, hu3, hr3, _, _⟩ := own_line (fun x _ => encT_len x) HROW.out.own
            subst hu3
            have HR3 := Lib.hid hr3
            have hLm : L.length ≤ 200 := by omega
            clear hr3
            go_wp2_with fail
            go_loopw [6, 7] (fun u6 u7 wi => ∃ j : Nat, j ≤ L.length ∧ u7 = .int .i64 j ∧ u6 = .bool ((L.take j).all fun x => !(x.1.id.toList == p.id.toList)) ∧ Below w1.heap.size w1 wi) (fun _ u7 _ => L.length - (intOf u7).toNat)
            case atStart => exact ⟨0, Nat.zero_le _, rfl, rfl, Below.refl _ _⟩
            case round =>
              obtain ⟨j, hj, rfl, rfl, hw2⟩ := hrel
              have z2 := hw2.size
              by_cases hjl : j < L.length
              · have hjl2 : (j : Int) < (L.length : Int) := by omega
                obtain ⟨x3, hx3⟩ : ∃ x, L[j]? = some x := ⟨L[j], List.getElem?_eq_getElem hjl⟩
                have HALL := Lib.hid (all_snoc (fun x : Pl => !(x.1.id.toList == p.id.toList)) hx3)
                obtain ⟨g3, off3, rfl, hg3, hc3⟩ := HR3.out j x3 hx3
                have c3c : wr.cell? ⟨g3, off3 + j * 15, none⟩ = some (.string x3.1.id) := (hw2.cell (p := ⟨g3, off3 + j * 15 + 0, none⟩) hg3).trans (hc3 0 _ rfl)
                have a0 : wr.cell? ⟨g, off + k * 15, none⟩ = some (.string p.id) := HCA.out wr (stepH hw1 hw2) 0 _ rfl
                clear hc3 hx3
                cases hb : ((L.take j).all fun x => !(x.1.id.toList == p.id.toList)) with
                | true =>
                  rw [hb] at HALL
                  cases hq : (x3.1.id.toList == p.id.toList) with
                  | true =>
                    have hq2 : (!x3.1.id.toList == p.id.toList) = false := by rw [hq]; rfl
                    rw [hq] at HALL
                    go_wp2_with fail
                    go_region_held3 (fun w' => w'.cell? ⟨g3, off3 + j * 15, none⟩ = some (.string x3.1.id) ∧ w'.cell? ⟨g, off + k * 15, none⟩ = some (.string p.id)) (first | with_reducible exact ⟨c3c, a0⟩ | go_keep)
                      (fail)
                    go_wp2_with fail
                    go_roundw
                    case rel => exact ⟨j + 1, by omega, by go_num, by rw [HALL.out]; rfl, by (repeat' (first | with_reducible exact Below.refl _ _ | with_reducible assumption | with_reducible refine Below.drew ?_ | with_reducible refine below_drewN ?_ _ | with_reducible refine Below.setCell ?_ ?_ _ | with_reducible refine Below.alloc ?_ ?_ _ | omega | (simp; done) | (simp; omega)))⟩
                    case measure => simp [intOf] <;> omega
                  | false =>
                    have hq2 : (!x3.1.id.toList == p.id.toList) = true := by rw [hq]; rfl
                    rw [hq] at HALL
                    go_wp2_with fail
                    go_region_held3 (fun w' => w'.cell? ⟨g3, off3 + j * 15, none⟩ = some (.string x3.1.id) ∧ w'.cell? ⟨g, off + k * 15, none⟩ = some (.string p.id)) (first | with_reducible exact ⟨c3c, a0⟩ | go_keep)
                      (fail)
                    go_wp2_with fail
                    go_roundw
                    case rel => exact ⟨j + 1, by omega, by go_num, by rw [HALL.out]; rfl, by (repeat' (first | with_reducible exact Below.refl _ _ | with_reducible assumption | with_reducible refine Below.drew ?_ | with_reducible refine below_drewN ?_ _ | with_reducible refine Below.setCell ?_ ?_ _ | with_reducible refine Below.alloc ?_ ?_ _ | omega | (simp; done) | (simp; omega)))⟩
                    case measure => simp [intOf] <;> omega
                | false =>
                  rw [hb] at HALL
                  go_wp2_with fail
                  refine wp_region_held_drew (S := fun w' => w'.cell? ⟨g, off + k * 15, none⟩ = some (.string p.id)) (by kernel_rfl) ?_ (fun hH0 => ?_)
                  · exact a0
                  refine wpAnyH_take (i := 0) (oi := { dst := some 66, op := Go.Op.move (Go.Operand.tmp 6), type := 4, pos := "free.go:20", after := #[], guard := none }) (v := ?_) rfl (by kernel_rfl) (by kernel_rfl) (by kernel_rfl) (fun _ _ _ h => h) (Or.inl ⟨by rfl, ?_⟩) (by assumption) ?_
                  rotate_left
                  · intro wq hSw; (try dsimp only at hSw); go_simp; (try with_reducible rfl)
                  try simp only [Act.put, List.setIfInBounds_toArray, List.set_cons_zero, List.set_cons_succ]
                  refine wpAnyH_take (i := 1) (oi := { dst := some 67, op := Go.Op.move (Go.Operand.tmp 66), type := 4, pos := "free.go:20", after := #[{ on := 0, ground := Go.Ground.data }], guard := none }) (v := ?_) rfl (by kernel_rfl) (by kernel_rfl) (by kernel_rfl) (fun _ _ _ h => h) (Or.inl ⟨by rfl, ?_⟩) (by assumption) ?_
                  rotate_left
                  · intro wq hSw; (try dsimp only at hSw); go_simp; (try with_reducible rfl)
                  try simp only [Act.put, List.setIfInBounds_toArray, List.set_cons_zero, List.set_cons_succ]
                  refine wpAnyH_take (i := 2) (oi := { dst := some 68, op := Go.Op.move (Go.Operand.tmp 3), type := 22, pos := "free.go:20", after := #[{ on := 1, ground := Go.Ground.guard }], guard := some (1, true) }) (v := undef) rfl (by kernel_rfl) (by kernel_rfl) (by kernel_rfl) (fun _ _ _ h => h) (Or.inr ⟨by rfl, rfl⟩) (by assumption) ?_
                  try simp only [Act.put, List.setIfInBounds_toArray, List.set_cons_zero, List.set_cons_succ]
                  refine wpAnyH_take (i := 3) (oi := { dst := some 69, op := Go.Op.move (Go.Operand.tmp 7), type := 3, pos := "free.go:20", after := #[{ on := 1, ground := Go.Ground.guard }], guard := some (1, true) }) (v := undef) rfl (by kernel_rfl) (by kernel_rfl) (by kernel_rfl) (fun _ _ _ h => h) (Or.inr ⟨by rfl, rfl⟩) (by assumption) ?_
                  try simp only [Act.put, List.setIfInBounds_toArray, List.set_cons_zero, List.set_cons_succ]
                  refine wpAnyH_take (i := 4) (oi := { dst := some 70, op := Go.Op.indexAddr 22 (Go.Operand.tmp 68) (Go.Operand.tmp 69), type := 0, pos := "free.go:20", after := #[{ on := 2, ground := Go.Ground.data }, { on := 3, ground := Go.Ground.data }, { on := 1, ground := Go.Ground.guard }], guard := some (1, true) }) (v := undef) rfl (by kernel_rfl) (by kernel_rfl) (by kernel_rfl) (fun _ _ _ h => h) (Or.inr ⟨by rfl, rfl⟩) (by assumption) ?_
                  try simp only [Act.put, List.setIfInBounds_toArray, List.set_cons_zero, List.set_cons_succ]
                  refine wpAnyH_take (i := 5) (oi := { dst := some 71, op := Go.Op.fieldAddr 43 (Go.Operand.tmp 70) 0, type := 0, pos := "free.go:20", after := #[{ on := 4, ground := Go.Ground.data }, { on := 1, ground := Go.Ground.guard }], guard := some (1, true) }) (v := undef) rfl (by kernel_rfl) (by kernel_rfl) (by kernel_rfl) (fun _ _ _ h => h) (Or.inr ⟨by rfl, rfl⟩) (by assumption) ?_
                  try simp only [Act.put, List.setIfInBounds_toArray, List.set_cons_zero, List.set_cons_succ]
                  refine wpAnyH_take (i := 6) (oi := { dst := some 72, op := Go.Op.load 9 (Go.Operand.tmp 71), type := 9, pos := "free.go:20", after := #[{ on := 5, ground := Go.Ground.data }, { on := 1, ground := Go.Ground.guard }], guard := some (1, true) }) (v := undef) rfl (by kernel_rfl) (by kernel_rfl) (by kernel_rfl) (fun _ _ _ h => h) (Or.inr ⟨by rfl, rfl⟩) (by assumption) ?_
                  try simp only [Act.put, List.setIfInBounds_toArray, List.set_cons_zero, List.set_cons_succ]
                  refine wpAnyH_take (i := 7) (oi := { dst := some 73, op := Go.Op.move (Go.Operand.tmp 0), type := 22, pos := "free.go:20", after := #[{ on := 1, ground := Go.Ground.guard }], guard := some (1, true) }) (v := undef) rfl (by kernel_rfl) (by kernel_rfl) (by kernel_rfl) (fun _ _ _ h => h) (Or.inr ⟨by rfl, rfl⟩) (by assumption) ?_
                  try simp only [Act.put, List.setIfInBounds_toArray, List.set_cons_zero, List.set_cons_succ]
                  refine wpAnyH_take (i := 8) (oi := { dst := some 74, op := Go.Op.move (Go.Operand.tmp 5), type := 3, pos := "free.go:20", after := #[{ on := 1, ground := Go.Ground.guard }], guard := some (1, true) }) (v := undef) rfl (by kernel_rfl) (by kernel_rfl) (by kernel_rfl) (fun _ _ _ h => h) (Or.inr ⟨by rfl, rfl⟩) (by assumption) ?_
                  try simp only [Act.put, List.setIfInBounds_toArray, List.set_cons_zero, List.set_cons_succ]
                  refine wpAnyH_take (i := 9) (oi := { dst := some 75, op := Go.Op.indexAddr 22 (Go.Operand.tmp 73) (Go.Operand.tmp 74), type := 0, pos := "free.go:20", after := #[{ on := 7, ground := Go.Ground.data }, { on := 8, ground := Go.Ground.data }, { on := 1, ground := Go.Ground.guard }], guard := some (1, true) }) (v := undef) rfl (by kernel_rfl) (by kernel_rfl) (by kernel_rfl) (fun _ _ _ h => h) (Or.inr ⟨by rfl, rfl⟩) (by assumption) ?_
                  try simp only [Act.put, List.setIfInBounds_toArray, List.set_cons_zero, List.set_cons_succ]
                  refine wpAnyH_take (i := 10) (oi := { dst := some 76, op := Go.Op.fieldAddr 43 (Go.Operand.tmp 75) 0, type := 0, pos := "free.go:20", after := #[{ on := 9, ground := Go.Ground.data }, { on := 1, ground := Go.Ground.guard }], guard := some (1, true) }) (v := undef) rfl (by kernel_rfl) (by kernel_rfl) (by kernel_rfl) (fun _ _ _ h => h) (Or.inr ⟨by rfl, rfl⟩) (by assumption) ?_
                  try simp only [Act.put, List.setIfInBounds_toArray, List.set_cons_zero, List.set_cons_succ]
                  refine wpAnyH_take (i := 11) (oi := { dst := some 77, op := Go.Op.load 9 (Go.Operand.tmp 76), type := 9, pos := "free.go:20", after := #[{ on := 10, ground := Go.Ground.data }, { on := 1, ground := Go.Ground.guard }], guard := some (1, true) }) (v := undef) rfl (by kernel_rfl) (by kernel_rfl) (by kernel_rfl) (fun _ _ _ h => h) (Or.inr ⟨by rfl, rfl⟩) (by assumption) ?_
                  try simp only [Act.put, List.setIfInBounds_toArray, List.set_cons_zero, List.set_cons_succ]
                  refine wpAnyH_take (i := 12) (oi := { dst := some 78, op := Go.Op.binOp Go.BinOp.neq 9 (Go.Operand.tmp 72) (Go.Operand.tmp 77) 9, type := 4, pos := "free.go:20", after := #[{ on := 6, ground := Go.Ground.data }, { on := 11, ground := Go.Ground.data }, { on := 1, ground := Go.Ground.guard }], guard := some (1, true) }) (v := undef) rfl (by kernel_rfl) (by kernel_rfl) (by kernel_rfl) (fun _ _ _ h => h) (Or.inr ⟨by rfl, rfl⟩) (by assumption) ?_
                  try simp only [Act.put, List.setIfInBounds_toArray, List.set_cons_zero, List.set_cons_succ]
                  refine wpAnyH_take (i := 13) (oi := { dst := some 79, op := Go.Op.pick (Go.Operand.tmp 67) (Go.Operand.tmp 78) (Go.Operand.const (Go.Value.bool false)), type := 4, pos := "free.go:20", after := #[{ on := 1, ground := Go.Ground.data }, { on := 12, ground := Go.Ground.data }], guard := none }) (v := ?_) rfl (by kernel_rfl) (by kernel_rfl) (by kernel_rfl) (fun _ _ _ h => h) (Or.inl ⟨by rfl, ?_⟩) (by assumption) ?_
                  rotate_left
                  · intro wq hSw; (try dsimp only at hSw); go_simp; (try with_reducible rfl)
                  try simp only [Act.put, List.setIfInBounds_toArray, List.set_cons_zero, List.set_cons_succ]
                  refine wpAnyH_take (i := 14) (oi := { dst := some 6, op := Go.Op.assign (Go.Operand.tmp 79), type := 4, pos := "free.go:20", after := #[{ on := 13, ground := Go.Ground.data }, { on := 1, ground := Go.Ground.chain }, { on := 0, ground := Go.Ground.phase }, { on := 1, ground := Go.Ground.phase }, { on := 2, ground := Go.Ground.phase }, { on := 3, ground := Go.Ground.phase }, { on := 4, ground := Go.Ground.phase }, { on := 5, ground := Go.Ground.phase }, { on := 6, ground := Go.Ground.phase }, { on := 7, ground := Go.Ground.phase }, { on := 8, ground := Go.Ground.phase }, { on := 9, ground := Go.Ground.phase }, { on := 10, ground := Go.Ground.phase }, { on := 11, ground := Go.Ground.phase }, { on := 12, ground := Go.Ground.phase }, { on := 13, ground := Go.Ground.phase }], guard := none }) (v := ?_) rfl (by kernel_rfl) (by kernel_rfl) (by kernel_rfl) (fun _ _ _ h => h) (Or.inl ⟨by rfl, ?_⟩) (by assumption) ?_
                  rotate_left
                  · intro wq hSw; (try dsimp only at hSw); go_simp; (try with_reducible rfl)
                  try simp only [Act.put, List.setIfInBounds_toArray, List.set_cons_zero, List.set_cons_succ]
                  refine wpAnyH_done (by kernel_rfl) ?_ _
                  go_wp2_with fail
                  go_roundw
                  case rel => exact ⟨j + 1, by omega, by go_num, by rw [HALL.out]; rfl, by (repeat' (first | with_reducible exact Below.refl _ _ | with_reducible assumption | with_reducible refine Below.drew ?_ | with_reducible refine below_drewN ?_ _ | with_reducible refine Below.setCell ?_ ?_ _ | with_reducible refine Below.alloc ?_ ?_ _ | omega | (simp; done) | (simp; omega)))⟩
                  case measure => simp [intOf] <;> omega
              · obtain rfl : j = L.length := by omega
                have HR5 := Lib.hid (HROW.out.step hw2)
                have hw3 : Below w.heap.size w wr := stepH hw1 hw2
                have z3 := hw3.size
                rw [List.take_length]
                cases hb : (L.all fun x => !(x.1.id.toList == p.id.toList)) with
                | false =>
                  go_wp2_with fail
                  go_roundw
                  case rel => exact ⟨k + 1, L, x, by omega, by omega, by go_num, rfl, HR5, HN, by omega, HW, hw3⟩
                  case measure => simp [intOf] <;> omega
                | true =>
                  have a0 : wr.cell? ⟨g, off + k * 15, none⟩ = some (.string p.id) := HCA.out wr hw3 0 _ rfl
                  have a1 : wr.cell? ⟨g, off + k * 15 + 1, none⟩ = some (.string p.key) := HCA.out wr hw3 1 _ rfl
                  have a2 : wr.cell? ⟨g, off + k * 15 + 2, none⟩ = some (.int .i64 p.s0) := HCA.out wr hw3 2 _ rfl
                  have a3 : wr.cell? ⟨g, off + k * 15 + 3, none⟩ = some (.int .i64 p.s1) := HCA.out wr hw3 3 _ rfl
                  have a4 : wr.cell? ⟨g, off + k * 15 + 4, none⟩ = some (.int .i64 p.ena) := HCA.out wr hw3 4 _ rfl
                  have a5 : wr.cell? ⟨g, off + k * 15 + 5, none⟩ = some (.int .i64 p.rank) := HCA.out wr hw3 5 _ rfl
                  have a6 : wr.cell? ⟨g, off + k * 15 + 6, none⟩ = some (.string p.rep) := HCA.out wr hw3 6 _ rfl
                  have a7 : wr.cell? ⟨g, off + k * 15 + 7, none⟩ = some (.int .i64 p.kind) := HCA.out wr hw3 7 _ rfl
                  have a8 : wr.cell? ⟨g, off + k * 15 + 8, none⟩ = some (.int .i64 p.n) := HCA.out wr hw3 8 _ rfl
                  have a9 : wr.cell? ⟨g, off + k * 15 + 9, none⟩ = some (.int .i64 p.d) := HCA.out wr hw3 9 _ rfl
                  have a10 : wr.cell? ⟨g, off + k * 15 + 10, none⟩ = some (.slice F p.scale.length cF) := HCA.out wr hw3 10 _ rfl
                  have a11 : wr.cell? ⟨g, off + k * 15 + 11, none⟩ = some (.string p.rule) := HCA.out wr hw3 11 _ rfl
                  have a12 : wr.cell? ⟨g, off + k * 15 + 12, none⟩ = some (.int .i64 p.mode) := HCA.out wr hw3 12 _ rfl
                  have a13 : wr.cell? ⟨g, off + k * 15 + 13, none⟩ = some (.int .i64 p.un) := HCA.out wr hw3 13 _ rfl
                  have a14 : wr.cell? ⟨g, off + k * 15 + 14, none⟩ = some (.int .i64 p.ud) := HCA.out wr hw3 14 _ rfl
                  have HNN : Hid ((((L ++ [((p, F, cF) : Pl)]).map (·.1)).map idb).Nodup) := Lib.hid (by
                    rw [List.map_append, List.map_append, List.nodup_append]
                    refine ⟨HN.out, by simp, fun a ha b hb2 => ?_⟩
                    obtain ⟨q, hq, rfl⟩ := List.mem_map.1 ha
                    obtain ⟨x, hx, rfl⟩ := List.mem_map.1 hq
                    simp at hb2; subst hb2
                    intro e
                    have h9 := List.all_eq_true.1 hb x hx
                    rw [show x.1.id = p.id from idb_inj e] at h9
                    simp at h9)
                  have HPW : Hid (∀ x ∈ L ++ [((p, F, cF) : Pl)], PvW x.1) := Lib.hid (fun x hx => by
                    rcases List.mem_append.1 hx with hx | hx
                    · exact HW.out x hx
                    · simp at hx; subst hx; exact hpw)
                  clear hb
                  go_wp2_with (at_builtin; go_must (refine wpList_append_lies _ rfl (.tmp 81) (.tmp 86) 22 rfl w.heap.size 43 inf0 _ 15 168 Tryd.underlying22 hi jz0 jz1 jz2 rfl (by decide) _ L.length _ rfl (own_below HR5.out.own (by (repeat' (first | with_reducible exact Below.refl _ _ | with_reducible assumption | with_reducible refine Below.drew ?_ | with_reducible refine below_drewN ?_ _ | with_reducible refine Below.setCell ?_ ?_ _ | with_reducible refine Below.alloc ?_ ?_ _ | omega | (simp; done) | (simp; omega))))) ⟨wr.heap.size, 0, none⟩ 1 1 [.string p.id, .string p.key, .int .i64 p.s0, .int .i64 p.s1, .int .i64 p.ena, .int .i64 p.rank, .string p.rep, .int .i64 p.kind, .int .i64 p.n, .int .i64 p.d, .slice F p.scale.length cF, .string p.rule, .int .i64 p.mode, .int .i64 p.un, .int .i64 p.ud] rfl rfl (World.news_of_block (cs := #[.string p.id, .string p.key, .int .i64 p.s0, .int .i64 p.s1, .int .i64 p.ena, .int .i64 p.rank, .string p.rep, .int .i64 p.kind, .int .i64 p.n, .int .i64 p.d, .slice F p.scale.length cF, .string p.rule, .int .i64 p.mode, .int .i64 p.un, .int .i64 p.ud]) (blk_new rfl)) (by simp [Value.oneCell']) (by decide) (by unfold maxLen; omega) (by omega) (by simp; omega) _ rfl ?_); intro g9 c9 w9 hown9 hgrow9 hat9 hlt9)
                  go_roundw
                  case rel =>
                    refine ⟨k + 1, L ++ [(p, F, cF)], x, by omega, by omega, by go_num, rfl, Lib.hid ?_, HNN, by simp; omega, HPW, ?_⟩
                    · have hb0 : Below wr.heap.size wr (wr.alloc (.cells #[.string p.id, .string p.key, .int .i64 p.s0, .int .i64 p.s1, .int .i64 p.ena, .int .i64 p.rank, .string p.rep, .int .i64 p.kind, .int .i64 p.n, .int .i64 p.d, .slice F p.scale.length cF, .string p.rule, .int .i64 p.mode, .int .i64 p.un, .int .i64 p.ud] 43)) := by (repeat' (first | with_reducible exact Below.refl _ _ | with_reducible assumption | with_reducible refine Below.drew ?_ | with_reducible refine below_drewN ?_ _ | with_reducible refine Below.setCell ?_ ?_ _ | with_reducible refine Below.alloc ?_ ?_ _ | omega | (simp; done) | (simp; omega)))
                      exact (HR5.out.step hb0).snoc ((HPA.out.step hw3).step hb0) (fun hs a ha e => by
                        have h1 := below_far HPA.out hs a ha
                        have h2 := HR5.out.own.lt a.block e
                        omega) hown9 rfl rfl hgrow9 hat9
                    · exact Below.grown (Below.alloc hw3 (by omega) _) hgrow9 (by simp; omega) (fun g hg => (HR5.out.own.lt g hg).1)
                  case measure => simp [intOf] <;> omega
      · have hlt3 : ¬ (k : Int) < 200 := by omega
        go_wp2_with fail
        go_ret
        exact HEND.out _ _ L HROW.out HN.out (by omega) HW.out hw0
    · have hlt2 : ¬ (k : Int) < (l.length : Int) := by omega
      go_wp2_with fail
      go_ret
      exact HEND.out _ _ L HROW.out HN.out (by omega) HW.out hw0
end Go.Proofs.YtngckppnaflciaaDoor
