/- Fractions, each once (slices.Compact): walk. -/
import Derived.Test.YtmankldedhgdiaaDoorSoD
import Derived.Laws.IdiomCopy
import Derived.Deep.Upon
namespace Go.Proofs.YtmankldedhgdiaaDoor
open Go.RowKit

theorem eqlFrac {p q : Rat} {b : Bool} (h : decide (p = q) = b) (w : World) : (binOp .eql 24 (.agg #[.int .i64 p.num, .int .i64 p.den]) (.agg #[.int .i64 q.num, .int .i64 q.den])).run Tryd.prog w = .ok (.bool b) w := by
  rw [run_eql_struct, eqFrac, ← h]
  show Result.ok (Value.bool _) w = _
  congr 2
  by_cases h : p = q
  · subst h; simp
  · rw [decide_eq_false h]
    by_cases h1 : p.num = q.num
    · have h2 : ¬ (p.den : Int) = q.den := fun e => h (fv_inj h1 e)
      simp [h1, h2]
    · simp [h1]
theorem dedup_snoc (x y : Rat) : ∀ l : List Rat, dedup (l ++ [x, y]) = dedup (l ++ [x]) ++ if x = y then [] else [y]
  | [] => by
    show (if x = y then dedup [y] else x :: dedup [y]) = [x] ++ _
    split
    · rename_i h; subst h; rfl
    · rfl
  | [a] => by
    have h := dedup_snoc x y []
    show (if a = x then dedup [x, y] else a :: dedup [x, y]) = (if a = x then dedup [x] else a :: dedup [x]) ++ _
    rw [show dedup [x, y] = _ from h]
    split <;> rfl
  | a :: b :: l => by
    have h := dedup_snoc x y (b :: l)
    show (if a = b then dedup ((b :: l) ++ [x, y]) else a :: dedup ((b :: l) ++ [x, y])) = (if a = b then dedup ((b :: l) ++ [x]) else a :: dedup ((b :: l) ++ [x])) ++ _
    rw [h]
    split <;> rfl
theorem dedup_take {l : List Rat} {k : Nat} {x y : Rat} (hx : l[k]? = some x) (hy : l[k + 1]? = some y) : dedup (l.take (k + 2)) = dedup (l.take (k + 1)) ++ if x = y then [] else [y] := by
  rw [take_snoc hy, take_snoc hx, List.append_assoc, List.singleton_append]
  exact dedup_snoc x y _
theorem dedup_len : ∀ l : List Rat, (dedup l).length ≤ l.length
  | [] => Nat.le_refl _
  | [_] => Nat.le_refl _
  | a :: b :: l => by
    have := dedup_len (b :: l)
    unfold dedup
    split
    · simp only [List.length_cons] at this ⊢; omega
    · simp only [List.length_cons] at this ⊢; omega
theorem own_setMany {base e size g n cap : Nat} (vs : List Value) {W : World} {xs : List Value} (h : W.ownsRow base e size (.slice (some ⟨g, 0, none⟩) n cap) n xs) (o : Nat) (ho : o + vs.length ≤ n * size) : ∃ ys, (W.setCells g o vs).ownsRow base e size (.slice (some ⟨g, 0, none⟩) n cap) n ys ∧ ∀ m, m ≤ o → ys.take m = xs.take m := by
  induction vs generalizing W xs o with
  | nil => exact ⟨xs, h, fun _ _ => rfl⟩
  | cons v vs ih =>
    simp only [List.length_cons] at ho
    obtain ⟨ys, h1, h2⟩ := ih (own_setS h (i := o) (by omega) v) (o + 1) (by omega)
    refine ⟨ys, h1, fun m hm => (h2 m (by omega)).trans ?_⟩
    rw [List.take_set_of_le hm]
theorem own_cut {W : World} {base e size g n cap m : Nat} {ys : List Value} (h : W.ownsRow base e size (.slice (some ⟨g, 0, none⟩) n cap) n ys) (hm : m ≤ n) : W.ownsRow base e size (.slice (some ⟨g, 0, none⟩) m cap) m (ys.take (m * size)) := by
  have hle : m * size ≤ n * size := Nat.mul_le_mul_right _ hm
  obtain ⟨hlen, hc⟩ := h
  rcases hc with ⟨h0, _⟩ | ⟨g', cap', cur, hv, hb, hg, h1, h2, h3, h4⟩
  · cases h0
  cases hv
  refine ⟨by rw [List.length_take]; omega, .inr ⟨g, cap, cur, rfl, hb, hg, by omega, h2, h3, ?_⟩⟩
  rw [← h4, List.take_take, Nat.min_eq_left hle]
theorem own_cells2 {w : World} {base g n c : Nat} {l : List (Int × Int)} {k : Nat} {p : Int × Int} (h : Own encF 2 24 base w (.slice (some ⟨g, 0, none⟩) n c) l) (hk : l[k]? = some p) :
    w.cell? ⟨g, k * 2, none⟩ = some (.int .i64 p.1) ∧ w.cell? ⟨g, k * 2 + 1, none⟩ = some (.int .i64 p.2) ∧ ∀ o, w.frozen? ⟨g, o, none⟩ = false := by
  obtain ⟨g1, c1, e1, _, _, hrow, hfz⟩ := own_cellsS (fun x _ => encF_len x) (fun e => by rw [e] at hk; cases hk) h
  injection e1 with e1
  injection e1 with e1
  injection e1 with e1
  subst e1
  obtain ⟨g2, off2, e2, _, hc⟩ := hrow k p hk
  cases e2
  have h0 := hc 0 _ rfl
  have h1 := hc 1 _ rfl
  rw [Nat.zero_add] at h0 h1
  exact ⟨h0, h1, hfz⟩
theorem belowSets {B b : Nat} {a : World} (hb : B ≤ b) : ∀ (vs : List Value) (o : Nat) (w : World), Below B a w → Below B a (w.setCells b o vs)
  | [], _, _, h => h
  | v :: r, o, w, h => belowSets hb r (o + 1) _ (h.setCell (by exact hb) v)
theorem run_clear_frac (w : World) (g o n c ty : Nat) (hn : 0 < n) (hc : ∀ j, j < n * 2 → (w.cell? ⟨g, o + j, none⟩).isSome = true) (hf : ∀ j, j < n * 2 → w.frozen? ⟨g, o + j, none⟩ = false) :
    (Builtin.clear_ #[39] ty #[.slice (some ⟨g, o, none⟩) n c]).run Tryd.prog w = .ok (.tuple #[]) (w.setCells g o (Builtin.zeroCells (Value.agg #[.int .i64 0, .int .i64 0]).cells n).toList) := by
  have hl : (Builtin.zeroCells (Value.agg #[.int .i64 0, .int .i64 0]).cells n).toList.length = n * 2 := by simp [Builtin.zeroCells, Value.cells]
  have h1 : ∀ v ∈ (Builtin.zeroCells (Value.agg #[.int .i64 0, .int .i64 0]).cells n).toList, v.oneCell' = true := by
    intro v hv
    simp only [Builtin.zeroCells, Value.cells, Array.toList_map, List.mem_map] at hv
    obtain ⟨i, _, rfl⟩ := hv
    show (#[Value.int .i64 0, Value.int .i64 0][i % 2]!).oneCell' = true
    have : i % 2 = 0 ∨ i % 2 = 1 := by omega
    rcases this with e | e <;> rw [e] <;> rfl
  have hst := run_storeCells_cells (P := Tryd.prog) g o (Builtin.zeroCells (Value.agg #[.int .i64 0, .int .i64 0]).cells n).toList 0 w (by rw [hl]; simpa using hc) (by rw [hl]; simpa using hf) h1
  simp only [Nat.add_zero] at hst
  obtain ⟨m, rfl⟩ : ∃ m, n = m + 1 := ⟨n - 1, by omega⟩
  have hv : ∀ w, (zeroValue 24).run Tryd.prog w = .ok (.agg #[.int .i64 0, .int .i64 0]) w := Tryd.zeroValue24
  simp [Builtin.clear_, run_underlying Tryd.underlying39, hv, hst]

set_option maxRecDepth 100000 in
set_option maxHeartbeats 8000000 in
theorem compactG_any (rs : List Rat) (A : Option Addr) (c base : Nat) (w : World) (hown : Own encF 2 24 base w (.slice A rs.length c) (rs.map fq)) (hm : rs.length ≤ 1000) (hb : base ≤ w.heap.size) :
    Calls Tryd.prog 49 #[.slice A rs.length c] w fun e w' => (e = .returned (.slice A (dedup rs).length c) ∧ Own encF 2 24 base w' (.slice A (dedup rs).length c) ((dedup rs).map fq)) ∧ Below base w w' := by
  by_cases h2 : rs.length < 2
  · have hd : dedup rs = rs := by
      match rs, h2 with
      | [], _ => rfl
      | [_], _ => rfl
    rw [hd]
    have HO := Lib.hid hown
    have i1 : (rs.length : Int) < 2 := by omega
    clear hown hd
    go_enter Tryd.func49, Tryd.ntmps49
    go_wp2_with fail
    go_ret
    exact ⟨⟨rfl, HO.out⟩, Below.refl _ _⟩
  have hne : rs.map fq ≠ [] := fun e => by have := congrArg List.length e; simp at this; subst this; simp at h2
  obtain ⟨g, c1, e1, hbg, hlc, _, _⟩ := own_cellsS (fun x _ => encF_len x) hne hown
  rw [List.length_map] at e1 hlc
  cases e1
  have HO := Lib.hid hown
  have hwb := Lib.hid hb
  clear hown hne hb
  have i1 : ¬ (rs.length : Int) < 2 := by omega
  go_enter Tryd.func49, Tryd.ntmps49
  go_wp2_with fail
  go_loopw [3] (fun i wr => ∃ k : Nat, k + 1 ≤ rs.length ∧ i = .int .i64 (k + 1 : Int) ∧ Hid (dedup (rs.take (k + 1)) = rs.take (k + 1)) ∧ Hid (Own encF 2 24 base wr (.slice (some ⟨g, 0, none⟩) rs.length c) (rs.map fq)) ∧ Below base w wr) (fun i _ => rs.length - (intOf i).toNat)
  case atStart => exact ⟨0, by omega, rfl, (by cases rs with | nil => rfl | cons a l => rfl), HO, Below.refl _ _⟩
  case round =>
    clear HO
    obtain ⟨k, hk, rfl, hd, HO, hw0⟩ := hrel
    have z0 := hw0.size
    by_cases hlt : k + 1 < rs.length
    · obtain ⟨y, hy⟩ : ∃ y, rs[k]? = some y := ⟨rs[k], List.getElem?_eq_getElem (by omega)⟩
      obtain ⟨x, hx⟩ : ∃ x, rs[k + 1]? = some x := ⟨rs[k + 1], List.getElem?_eq_getElem hlt⟩
      obtain ⟨k0, k1, hfz⟩ := own_cells2 HO.out (show (rs.map fq)[k]? = some (fq y) by rw [List.getElem?_map, hy]; rfl)
      obtain ⟨j0, j1, _⟩ := own_cells2 HO.out (show (rs.map fq)[k + 1]? = some (fq x) by rw [List.getElem?_map, hx]; rfl)
      replace k0 : wr.cell? ⟨g, k * 2, none⟩ = some (.int .i64 y.num) := k0
      replace k1 : wr.cell? ⟨g, k * 2 + 1, none⟩ = some (.int .i64 y.den) := k1
      replace j0 : wr.cell? ⟨g, (k + 1) * 2, none⟩ = some (.int .i64 x.num) := j0
      replace j1 : wr.cell? ⟨g, (k + 1) * 2 + 1, none⟩ = some (.int .i64 x.den) := j1
      have HDT := Lib.hid (dedup_take hy hx)
      have HX := Lib.hid hx
      have HY := Lib.hid hy
      clear hx hy
      have s3 : (0 : Int) ≤ (k : Int) + 1 := by omega
      have s4 : (k : Int) + 1 < (rs.length : Int) := by omega
      have s5 : ((k : Int) + 1).toNat = k + 1 := by omega
      have s6 : (k : Int) < (rs.length : Int) := by omega
      have s2 : IntKind.i64.wrap ((k : Int)) = (k : Int) := IntWalk.i64_in _ (by omega)
      have s1 : IntKind.i64.wrap ((k : Int) + 1 - 1) = (k : Int) := by rw [show (k : Int) + 1 - 1 = k by omega]; exact s2
      by_cases hxy : x = y
      · have hq := eqlFrac (p := x) (q := y) (b := true) (decide_eq_true hxy)
        have HXY := Lib.hid hxy
        clear hxy
        go_wp2_with fail
        go_quiet (fail)
        have s7 : (k : Int) + 1 ≤ (rs.length : Int) := by omega
        have s8 : ¬ c = k + 1 := by omega
        have s9 : (k : Int) + 1 ≤ (c : Int) := by omega
        go_wp2_with fail
        have HS0 : Hid (dedup (rs.take (k + 1 + (0 + 1))) = rs.take (k + 1)) := by
          show _ = _
          rw [show k + 1 + (0 + 1) = k + 2 by omega, HDT.out, hd.out, if_pos HXY.out.symm, List.append_nil]
        have HW : Hid (Below base w (wr.drewN nq)) := Lib.hid (by (repeat' (first | with_reducible exact Below.refl _ _ | with_reducible assumption | with_reducible refine Below.drew ?_ | with_reducible refine below_drewN ?_ _ | with_reducible refine Below.setCell ?_ ?_ _ | with_reducible refine Below.alloc ?_ ?_ _ | omega | (simp; done) | (simp; omega))))
        have HO2 := Lib.hid (own_below HO.out (w' := wr.drewN nq) (by (repeat' (first | with_reducible exact Below.refl _ _ | with_reducible assumption | with_reducible refine Below.drew ?_ | with_reducible refine below_drewN ?_ _ | with_reducible refine Below.setCell ?_ ?_ _ | with_reducible refine Below.alloc ?_ ?_ _ | omega | (simp; done) | (simp; omega)))))
        clear hq j0 j1 k0 k1 hfz s1 s2 s3 s4 s5 s6 HDT HX HY HXY HO hd s9
        go_loopw [3, 5] (fun a b wr => ∃ (j kk : Nat), j + 1 ≤ rs.length - (k + 1) ∧ k + 1 ≤ kk ∧ kk ≤ k + 1 + j ∧ a = .int .i64 kk ∧ b = .int .i64 (j + 1 : Int) ∧ Hid ((dedup (rs.take (k + 1 + (j + 1)))).length = kk) ∧ Hid (Own encF 2 24 base wr (.slice (some ⟨g, 0, none⟩) rs.length c) ((dedup (rs.take (k + 1 + (j + 1))) ++ rs.drop kk).map fq)) ∧ Below base w wr) (fun _ b _ => rs.length - (intOf b).toNat)
        case atStart =>
          refine ⟨0, k + 1, by omega, Nat.le_refl _, Nat.le_refl _, rfl, rfl, ?_, ?_, HW.out⟩
          · show _ = _; rw [HS0.out, List.length_take]; omega
          · show Own _ _ _ _ _ _ _; rw [HS0.out, List.take_append_drop]; exact HO2.out
        case round =>
          clear HO2 HW HS0 hw0 z0
          obtain ⟨j, kk, hj, hk1, hk2, rfl, rfl, hDl, HO, hw0⟩ := hrel
          have z0 := hw0.size
          obtain ⟨L, hL⟩ : ∃ L, rs.length - (k + 1) = L := ⟨_, rfl⟩
          have hL2 : k + 1 + L = rs.length := by omega
          rw [hL] at *
          clear hL
          obtain ⟨D, hD⟩ : ∃ D, dedup (rs.take (k + 1 + (j + 1))) = D := ⟨_, rfl⟩
          have HD := Lib.hid hD
          rw [hD] at hDl HO
          clear hD
          have hkl : kk < rs.length := by omega
          have HKK : Hid ((D ++ rs.drop kk)[kk]? = rs[kk]?) := by
            show _ = _
            rw [List.getElem?_append_right (by rw [hDl.out]; exact Nat.le_refl _), hDl.out, List.getElem?_drop, Nat.sub_self, Nat.add_zero]
          by_cases hjl : j + 1 < L
          · obtain ⟨y, hy⟩ : ∃ y, rs[k + 1 + j]? = some y := ⟨rs[k + 1 + j]'(by omega), List.getElem?_eq_getElem _⟩
            obtain ⟨x, hx⟩ : ∃ x, rs[k + 1 + j + 1]? = some x := ⟨rs[k + 1 + j + 1]'(by omega), List.getElem?_eq_getElem _⟩
            obtain ⟨z, hz⟩ : ∃ z, rs[kk]? = some z := ⟨rs[kk], List.getElem?_eq_getElem hkl⟩
            have hat : ∀ m q, kk ≤ m → rs[m]? = some q → ((D ++ rs.drop kk).map fq)[m]? = some (fq q) := by
              intro m q hm' hq
              rw [List.getElem?_map, List.getElem?_append_right (by rw [hDl.out]; exact hm'), hDl.out, List.getElem?_drop, show kk + (m - kk) = m by omega, hq]; rfl
            obtain ⟨k0, k1, hfz⟩ := own_cells2 HO.out (hat _ _ (by omega) hy)
            obtain ⟨j0, j1, _⟩ := own_cells2 HO.out (hat _ _ (by omega) hx)
            obtain ⟨l0, l1, _⟩ := own_cells2 HO.out (hat _ _ (Nat.le_refl _) hz)
            replace k0 : wr.cell? ⟨g, (k + 1) * 2 + j * 2, none⟩ = some (.int .i64 y.num) := by rw [← Nat.add_mul]; exact k0
            replace k1 : wr.cell? ⟨g, (k + 1) * 2 + j * 2 + 1, none⟩ = some (.int .i64 y.den) := by rw [← Nat.add_mul]; exact k1
            replace j0 : wr.cell? ⟨g, (k + 1) * 2 + (j + 1) * 2, none⟩ = some (.int .i64 x.num) := by rw [← Nat.add_mul]; exact j0
            replace j1 : wr.cell? ⟨g, (k + 1) * 2 + (j + 1) * 2 + 1, none⟩ = some (.int .i64 x.den) := by rw [← Nat.add_mul]; exact j1
            replace l0 : wr.cell? ⟨g, kk * 2, none⟩ = some (.int .i64 z.num) := l0
            replace l1 : wr.cell? ⟨g, kk * 2 + 1, none⟩ = some (.int .i64 z.den) := l1
            have HDT : Hid (dedup (rs.take (k + 1 + (j + 1 + 1))) = D ++ if y = x then [] else [x]) := by
              have h := dedup_take hy hx
              rw [show k + 1 + j + 1 = k + 1 + (j + 1) by omega, HD.out, show k + 1 + j + 2 = k + 1 + (j + 1 + 1) by omega] at h
              exact h
            have HZ := Lib.hid (hat _ _ (Nat.le_refl _) hz)
            have HZ2 := Lib.hid hz
            clear hx hy hz hat HKK
            have s3 : (0 : Int) ≤ (j : Int) + 1 := by omega
            have s4 : (j : Int) + 1 < (L : Int) := by omega
            have s5 : ((j : Int) + 1).toNat = j + 1 := by omega
            have s6 : (j : Int) < (L : Int) := by omega
            have s2 : IntKind.i64.wrap ((j : Int)) = (j : Int) := IntWalk.i64_in _ (by omega)
            have s1 : IntKind.i64.wrap ((j : Int) + 1 - 1) = (j : Int) := by rw [show (j : Int) + 1 - 1 = j by omega]; exact s2
            have s10 : (kk : Int) < (rs.length : Int) := by omega
            by_cases hxy : x = y
            · have hq := neFrac (p := x) (q := y) (b := false) (by simp [hxy])
              have HXY := Lib.hid hxy
              clear hxy
              go_wp2_with fail
              go_quiet (fail)
              go_wp2_with fail
              go_roundw
              case rel =>
                have e : Hid (dedup (rs.take (k + 1 + (j + 1 + 1))) = D) := by show _ = _; rw [HDT.out, if_pos HXY.out.symm, List.append_nil]
                refine ⟨j + 1, kk, by omega, by omega, by omega, rfl, by go_num, ?_, ?_, by (repeat' (first | with_reducible exact Below.refl _ _ | with_reducible assumption | with_reducible refine Below.drew ?_ | with_reducible refine below_drewN ?_ _ | with_reducible refine Below.setCell ?_ ?_ _ | with_reducible refine Below.alloc ?_ ?_ _ | omega | (simp; done) | (simp; omega)))⟩
                · show _ = _; rw [e.out]; exact hDl.out
                · show Own _ _ _ _ _ _ _; rw [e.out]; exact own_below HO.out (by (repeat' (first | with_reducible exact Below.refl _ _ | with_reducible assumption | with_reducible refine Below.drew ?_ | with_reducible refine below_drewN ?_ _ | with_reducible refine Below.setCell ?_ ?_ _ | with_reducible refine Below.alloc ?_ ?_ _ | omega | (simp; done) | (simp; omega))))
              case measure => simp [intOf]; omega
            · have hq := neFrac (p := x) (q := y) (b := true) (by simp [hxy])
              have HXY := Lib.hid hxy
              clear hxy
              go_wp2_with fail
              go_quiet (fail)
              go_wp2_with fail
              go_roundw
              case rel =>
                have e : Hid (dedup (rs.take (k + 1 + (j + 1 + 1))) = D ++ [x]) := by show _ = _; rw [HDT.out, if_neg (fun h => HXY.out h.symm)]
                refine ⟨j + 1, kk + 1, by omega, by omega, by omega, by go_num, by go_num, ?_, ?_, ?_⟩
                · show _ = _; rw [e.out, List.length_append, hDl.out]; rfl
                · show Own _ _ _ _ _ _ _
                  have h1 := own_put (j := 0) (u := .int .i64 x.num) (b' := (x.num, (z.den : Int))) encF_len (own_below HO.out (w' := wr.drewN nq) (by (repeat' (first | with_reducible exact Below.refl _ _ | with_reducible assumption | with_reducible refine Below.drew ?_ | with_reducible refine below_drewN ?_ _ | with_reducible refine Below.setCell ?_ ?_ _ | with_reducible refine Below.alloc ?_ ?_ _ | omega | (simp; done) | (simp; omega))))) HZ.out (by decide) rfl
                  have h2 := own_put (k := kk) (j := 1) (u := .int .i64 x.den) (b := (x.num, (z.den : Int))) (b' := fq x) encF_len h1 (by rw [List.getElem?_set_self (List.getElem?_eq_some_iff.1 HZ.out).1]) (by decide) rfl
                  rw [List.set_set, ← List.map_set] at h2
                  have e2 : (D ++ rs.drop kk).set kk x = (D ++ [x]) ++ rs.drop (kk + 1) := by
                    rw [List.set_append_right _ _ (by rw [hDl.out]; exact Nat.le_refl _), hDl.out, Nat.sub_self, drop_cons HZ2.out, List.set_cons_zero, List.append_assoc]; rfl
                  rw [e.out, ← e2]
                  exact h2
                · (repeat' (first | with_reducible exact Below.refl _ _ | with_reducible assumption | with_reducible refine Below.drew ?_ | with_reducible refine below_drewN ?_ _ | with_reducible refine Below.setCell ?_ ?_ _ | with_reducible refine Below.alloc ?_ ?_ _ | omega | (simp; done) | (simp; omega)))
              case measure => simp [intOf]; omega
          · have hjL : k + 1 + (j + 1) = rs.length := by omega
            have HDF : Hid (D = dedup rs) := by show _ = _; rw [← HD.out, hjL, List.take_length]
            have t1 : ¬ c = kk := by omega
            have t2 : kk ≤ rs.length := by omega
            have t3 : (kk : Int) ≤ (rs.length : Int) := by omega
            have t4 : (kk : Int) ≤ (c : Int) := by omega
            have hlen2 : Hid ((D ++ rs.drop kk).length = rs.length) := by show _ = _; rw [List.length_append, hDl.out, List.length_drop]; omega
            have hall : ∀ m, m < rs.length * 2 → (wr.cell? ⟨g, m, none⟩).isSome = true ∧ wr.frozen? ⟨g, m, none⟩ = false := by
              intro m hm'
              have hq : m / 2 < (D ++ rs.drop kk).length := by rw [hlen2.out]; omega
              obtain ⟨c0, c1, hf⟩ := own_cells2 HO.out (show ((D ++ rs.drop kk).map fq)[m / 2]? = some (fq ((D ++ rs.drop kk)[m / 2])) by rw [List.getElem?_map, List.getElem?_eq_getElem hq]; rfl)
              have h2 : m % 2 = 0 ∨ m % 2 = 1 := by omega
              rcases h2 with h | h
              · rw [show m / 2 * 2 = m by omega] at c0; exact ⟨by rw [c0]; rfl, hf _⟩
              · rw [show m / 2 * 2 + 1 = m by omega] at c1; exact ⟨by rw [c1]; rfl, hf _⟩
            have hcl : ∀ ty, (Builtin.clear_ #[39] ty #[.slice (some ⟨g, kk * 2, none⟩) (rs.length - kk) (c - kk)]).run Tryd.prog wr = .ok (.tuple #[]) (wr.setCells g (kk * 2) (Builtin.zeroCells (Value.agg #[.int .i64 0, .int .i64 0]).cells (rs.length - kk)).toList) :=
              fun ty => run_clear_frac wr g (kk * 2) (rs.length - kk) (c - kk) ty (by omega) (fun j hj => (hall _ (by omega)).1) (fun j hj => (hall _ (by omega)).2)
            clear hall
            have hzl : Hid ((Builtin.zeroCells (Value.agg #[.int .i64 0, .int .i64 0]).cells (rs.length - kk)).toList.length = (rs.length - kk) * 2) := Lib.hid (by simp [Builtin.zeroCells, Value.cells])
            generalize hZ : (Builtin.zeroCells (Value.agg #[.int .i64 0, .int .i64 0]).cells (rs.length - kk)).toList = Z at *
            go_wp2_with fail
            go_ret
            have hO := HO.out
            unfold Own at hO
            rw [List.length_map, hlen2.out] at hO
            obtain ⟨ys, h1, h2⟩ := own_setMany Z hO (kk * 2) (by rw [hzl.out, ← Nat.add_mul]; exact Nat.mul_le_mul_right _ (by omega))
            have h3 := own_cut h1 t2
            rw [h2 _ (Nat.le_refl _)] at h3
            have hKd : kk = (dedup rs).length := by rw [← HDF.out, hDl.out]
            have h4 : (((D ++ rs.drop kk).map fq).flatMap encF).take (kk * 2) = ((dedup rs).map fq).flatMap encF := by
              rw [List.map_append, List.flatMap_append, List.take_append_of_le_length (by rw [flat_len (fun x _ => encF_len x), List.length_map, hDl.out]; exact Nat.le_refl _), List.take_of_length_le (by rw [flat_len (fun x _ => encF_len x), List.length_map, hDl.out]; exact Nat.le_refl _), HDF.out]
            rw [h4] at h3
            rw [← hKd]
            refine ⟨⟨rfl, ?_⟩, belowSets hbg Z _ _ hw0⟩
            unfold Own; rw [List.length_map, ← hKd]; exact h3
      · have hq := eqlFrac (p := x) (q := y) (b := false) (decide_eq_false hxy)
        have HXY := Lib.hid hxy
        clear hxy
        go_wp2_with fail
        go_quiet (fail)
        go_wp2_with fail
        go_roundw
        case rel =>
          refine ⟨k + 1, by omega, by go_num, ?_, Lib.hid (own_below HO.out (by (repeat' (first | with_reducible exact Below.refl _ _ | with_reducible assumption | with_reducible refine Below.drew ?_ | with_reducible refine below_drewN ?_ _ | with_reducible refine Below.setCell ?_ ?_ _ | with_reducible refine Below.alloc ?_ ?_ _ | omega | (simp; done) | (simp; omega))))), by (repeat' (first | with_reducible exact Below.refl _ _ | with_reducible assumption | with_reducible refine Below.drew ?_ | with_reducible refine below_drewN ?_ _ | with_reducible refine Below.setCell ?_ ?_ _ | with_reducible refine Below.alloc ?_ ?_ _ | omega | (simp; done) | (simp; omega)))⟩
          show _ = _
          rw [HDT.out, hd.out, if_neg (fun e => HXY.out e.symm)]
          exact (take_snoc HX.out).symm
        case measure => simp [intOf]; omega
    · have hke : k + 1 = rs.length := by omega
      have HD : Hid (dedup rs = rs) := by have h := hd.out; rw [hke, List.take_length] at h; exact Lib.hid h
      clear hd
      go_wp2_with fail
      go_ret
      rw [HD.out]
      exact ⟨⟨rfl, HO.out⟩, by (repeat' (first | with_reducible exact Below.refl _ _ | with_reducible assumption | with_reducible refine Below.drew ?_ | with_reducible refine below_drewN ?_ _ | with_reducible refine Below.setCell ?_ ?_ _ | with_reducible refine Below.alloc ?_ ?_ _ | omega | (simp; done) | (simp; omega)))⟩

end Go.Proofs.YtmankldedhgdiaaDoor
