/- The work of a step: it counts, it asks for what it is worked out of: the closure's walk. -/
import Derived.Test.YtodlbfekoohpoaaDoorBootQ
namespace Go.Proofs.YtodlbfekoohpoaaDoor
open Go.RowKit

set_option maxRecDepth 10000 in
set_option maxHeartbeats 8000000 in
theorem get_in (S : List Sm) (hM : Mild S) (hF : ∀ s ∈ S, ∀ f ∈ s.2, -9223372036854775808 ≤ f ∧ f ≤ 9223372036854775807) (hlen : S.length ≤ 60) (A : Option Addr) (cS b : Nat) (E : Nat → Addr) (m : Int) (L P U wB rB i : Nat) (hi : i < S.length) (ih : ∀ t, t < i → GetAt S A cS b E m L P U wB rB t)
    (x : Int) (hx : x = (i : Int)) (pB iB um : Nat) (w : World) (v : Value) (I : List Nat) (R : List Int) (B : List ByteArray) (hg : GS S A cS b E m L P U wB rB w v I R um B) (hr : Ran0 R I i) (hB : ∀ j, j < i → inB B (nameS j) = false) (hu : um + i ≤ 1061 + I.length) (hn : i ∉ I)
    (hp : Box L P U v w pB (.cells #[.pointer (some ⟨wB, 0, none⟩)] 45 (0, 0))) (hib : Box L P U v w iB (.cells #[.int .i64 x] 3 (0, 0))) (hne : pB ≠ rB ∧ iB ≠ rB) :
    Calls Tryd.prog 42 #[.pointer (some ⟨pB, 0, none⟩), .pointer (some ⟨iB, 0, none⟩)] w fun e w' => ∃ v' J R' um', e = .returned (.int .i64 (valS S i)) ∧ GS S A cS b E m L P U wB rB w' v' J R' um' B ∧ LKeep [rB] L P U v w v' w' ∧ (∀ j ∈ I, j ∈ J) ∧ (∀ j ∈ J, j ∈ I ∨ j < i) ∧ (∀ s, S[i]? = some s → ∀ f ∈ s.2.take 4, ∀ t, toOf i f = some t → t ∈ J) ∧ RanTo I J (R.set i 1) R' ∧ um' + I.length ≤ um + J.length := by
  obtain ⟨s, hs⟩ : ∃ s, S[i]? = some s := ⟨S[i], List.getElem?_eq_getElem hi⟩
  have k0 : w.cell? ⟨pB, 0, none⟩ = some (.pointer (some ⟨wB, 0, none⟩)) := hp.cell 0
  have k1 : w.cell? ⟨wB, 0, none⟩ = some (.slice A S.length cS) := hg.wb.cell 0
  have k2 : w.cell? ⟨wB, 2, none⟩ = some (.slice (some ⟨rB, 0, none⟩) S.length S.length) := hg.wb.cell 2
  have k3 : w.cell? ⟨iB, 0, none⟩ = some (.int .i64 x) := hib.cell 0
  have h0 := hr i (Nat.le_refl _) hn
  have k4 : w.cell? ⟨rB, i, none⟩ = some (.int .i64 0) := by rw [hg.rb.cell i]; simp [h0]
  have cF := frozH (Lib.hid hg.rb.2)
  obtain ⟨sb, so, F, cf, rfl, hsb, j0, j1, jr⟩ := hg.sm i s hs
  have hbz := hg.st.hb
  have hrb := hg.hr
  have n1 : wB ≠ rB := hg.ne
  have n2 := hne.1
  have n3 := hne.2
  have n4 : sb ≠ rB := by omega
  have x0 : 0 ≤ x := by omega
  have x1 : x < (S.length : Int) := by omega
  have x2 : x.toNat = i := by omega
  have u1 : Hid (IntKind.i64.wrap 1 = 1) := by show _ = _; kernel_rfl
  obtain ⟨w1, h1⟩ : ∃ w1, w.setCell ⟨rB, i, none⟩ (.int .i64 1) = w1 := ⟨_, rfl⟩
  have HLED := hg.st.led.setO hg.rb.1 i (.int .i64 1)
  have HG1 : Hid (GS S (some ⟨sb, so, none⟩) cS b E m L P U wB rB w1 v I (R.set i 1) um B) := by
    rw [← h1]
    exact hg.keep (hg.st.keep HLED.1 HLED.2 (by simp [hrb])) HLED.2 (hg.rb.setI 1) hg.gd (List.length_set ..)
  have HK1 : Hid (LKeep [rB] L P U v w v w1) := by rw [← h1]; exact HLED.2
  have HP1 : Hid (Box L P U v w1 pB (.cells #[.pointer (some ⟨wB, 0, none⟩)] 45 (0, 0))) := by rw [← h1]; exact HLED.2.box hp (by simp [n2])
  have HI1 : Hid (Box L P U v w1 iB (.cells #[.int .i64 x] 3 (0, 0))) := by rw [← h1]; exact HLED.2.box hib (by simp [n3])
  have h1 := Lib.hid h1
  have HS := Lib.hid hs
  have HN := Lib.hid hn
  have HR := Lib.hid hr
  have HBB := Lib.hid hB
  have HXI := Lib.hid hx
  have HIH := Lib.hid ih
  clear hg hr hB hp hib jr HLED h0 hs hn hne hx ih
  go_enter Tryd.func42, Tryd.ntmps42
  go_wp2_with fail
  refine wp_onlyN ?_
  refine wp_region_held_drew (S := fun w' => w'.cell? ⟨pB, 0, none⟩ = some (.pointer (some ⟨wB, 0, none⟩)) ∧ w'.cell? ⟨wB, 2, none⟩ = some (.slice (some ⟨rB, 0, none⟩) S.length S.length) ∧ w'.cell? ⟨iB, 0, none⟩ = some (.int .i64 x)) (by kernel_rfl) ?_ (fun hH0 => ?_)
  · exact ⟨k0, k2, k3⟩
  refine wpAnyH_take (i := 0) (oi := { dst := some 6, op := Go.Op.load 45 (Go.Operand.tmp 0), type := 45, pos := "free.go:32", after := #[], guard := none }) (v := ?_) rfl (by kernel_rfl) (by kernel_rfl) (by kernel_rfl) (fun _ _ _ h => h) (Or.inl ⟨by rfl, ?_⟩) (by assumption) ?_
  rotate_left
  · intro wq hSw; (try dsimp only at hSw); go_simp; (try with_reducible rfl)
  try simp only [Act.put, List.setIfInBounds_toArray, List.set_cons_zero, List.set_cons_succ]
  refine wpAnyH_take (i := 1) (oi := { dst := some 7, op := Go.Op.nilCheck (Go.Operand.tmp 6), type := 0, pos := "free.go:32", after := #[{ on := 0, ground := Go.Ground.data }], guard := none }) (v := ?_) rfl (by kernel_rfl) (by kernel_rfl) (by kernel_rfl) (fun _ _ _ h => h) (Or.inl ⟨by rfl, ?_⟩) (by assumption) ?_
  rotate_left
  · intro wq hSw; (try dsimp only at hSw); go_simp; (try with_reducible rfl)
  try simp only [Act.put, List.setIfInBounds_toArray, List.set_cons_zero, List.set_cons_succ]
  refine wpAnyH_take (i := 2) (oi := { dst := some 8, op := Go.Op.fieldAddr 47 (Go.Operand.tmp 7) 2, type := 0, pos := "free.go:32", after := #[{ on := 1, ground := Go.Ground.data }], guard := none }) (v := ?_) rfl (by kernel_rfl) (by kernel_rfl) (by kernel_rfl) (fun _ _ _ h => h) (Or.inl ⟨by rfl, ?_⟩) (by assumption) ?_
  rotate_left
  · intro wq hSw; (try dsimp only at hSw); go_simp; (try with_reducible rfl)
  try simp only [Act.put, List.setIfInBounds_toArray, List.set_cons_zero, List.set_cons_succ]
  refine wpAnyH_take (i := 3) (oi := { dst := some 9, op := Go.Op.load 42 (Go.Operand.tmp 8), type := 42, pos := "free.go:32", after := #[{ on := 2, ground := Go.Ground.data }], guard := none }) (v := ?_) rfl (by kernel_rfl) (by kernel_rfl) (by kernel_rfl) (fun _ _ _ h => h) (Or.inl ⟨by rfl, ?_⟩) (by assumption) ?_
  rotate_left
  · intro wq hSw; (try dsimp only at hSw); go_simp; (try with_reducible rfl)
  try simp only [Act.put, List.setIfInBounds_toArray, List.set_cons_zero, List.set_cons_succ]
  refine wpAnyH_take (i := 4) (oi := { dst := some 10, op := Go.Op.load 3 (Go.Operand.tmp 1), type := 3, pos := "free.go:32", after := #[], guard := none }) (v := ?_) rfl (by kernel_rfl) (by kernel_rfl) (by kernel_rfl) (fun _ _ _ h => h) (Or.inl ⟨by rfl, ?_⟩) (by assumption) ?_
  rotate_left
  · intro wq hSw; (try dsimp only at hSw); go_simp; (try with_reducible rfl)
  try simp only [Act.put, List.setIfInBounds_toArray, List.set_cons_zero, List.set_cons_succ]
  refine wpAnyH_take (i := 5) (oi := { dst := some 11, op := Go.Op.indexAddr 42 (Go.Operand.tmp 9) (Go.Operand.tmp 10), type := 0, pos := "free.go:32", after := #[{ on := 3, ground := Go.Ground.data }, { on := 4, ground := Go.Ground.data }], guard := none }) (v := ?_) rfl (by kernel_rfl) (by kernel_rfl) (by kernel_rfl) (fun _ _ _ h => h) (Or.inl ⟨by rfl, ?_⟩) (by assumption) ?_
  rotate_left
  · intro wq hSw; (try dsimp only at hSw); go_simp; (try with_reducible rfl)
  try simp only [Act.put, List.setIfInBounds_toArray, List.set_cons_zero, List.set_cons_succ]
  refine wpAnyH_ready (rs := [6]) (by kernel_rfl) (by simp) ?_
  refine AllReadyH.cons (o := { dst := some 12, op := Go.Op.load 3 (Go.Operand.tmp 11), type := 3, pos := "free.go:32", after := #[{ on := 5, ground := Go.Ground.data }], guard := none }) rfl (fun K hK => ?_) AllReadyH.nil
  go_simp
  refine hK.out _ _ ?_ (fun hH1 => ?_)
  · (try dsimp only); exact ⟨k0, k2, k3⟩
  clear hK K
  clear hH0
  try simp only [Act.put, List.setIfInBounds_toArray, List.set_cons_zero, List.set_cons_succ]
  refine wpAnyH_take (i := 7) (oi := { dst := some 13, op := Go.Op.binOp Go.BinOp.add 3 (Go.Operand.tmp 12) (Go.Operand.const (Go.Value.int Go.IntKind.i64 1)) 3, type := 3, pos := "free.go:32", after := #[{ on := 6, ground := Go.Ground.data }], guard := none }) (v := ?_) rfl (by kernel_rfl) (by kernel_rfl) (by kernel_rfl) (fun _ _ _ h => h) (Or.inl ⟨by rfl, ?_⟩) (by assumption) ?_
  rotate_left
  · intro wq hSw; (try dsimp only at hSw); go_simp; (try with_reducible rfl)
  try simp only [Act.put, List.setIfInBounds_toArray, List.set_cons_zero, List.set_cons_succ]
  refine wpAnyH_take (i := 8) (oi := { dst := some 14, op := Go.Op.indexAddr 42 (Go.Operand.tmp 9) (Go.Operand.tmp 10), type := 0, pos := "free.go:32", after := #[{ on := 3, ground := Go.Ground.data }, { on := 4, ground := Go.Ground.data }, { on := 0, ground := Go.Ground.phase }, { on := 1, ground := Go.Ground.phase }, { on := 2, ground := Go.Ground.phase }, { on := 3, ground := Go.Ground.phase }, { on := 4, ground := Go.Ground.phase }, { on := 5, ground := Go.Ground.phase }, { on := 6, ground := Go.Ground.phase }, { on := 7, ground := Go.Ground.phase }], guard := none }) (v := ?_) rfl (by kernel_rfl) (by kernel_rfl) (by kernel_rfl) (fun _ _ _ h => h) (Or.inl ⟨by rfl, ?_⟩) (by assumption) ?_
  rotate_left
  · intro wq hSw; (try dsimp only at hSw); go_simp; (try with_reducible rfl)
  try simp only [Act.put, List.setIfInBounds_toArray, List.set_cons_zero, List.set_cons_succ]
  refine wpAnyH_ready (rs := [9]) (by kernel_rfl) (by simp) ?_
  refine AllReadyH.cons (o := { dst := none, op := Go.Op.store 3 (Go.Operand.tmp 14) (Go.Operand.tmp 13), type := 0, pos := "free.go:32", after := #[{ on := 8, ground := Go.Ground.data }, { on := 7, ground := Go.Ground.data }, { on := 0, ground := Go.Ground.phase }, { on := 1, ground := Go.Ground.phase }, { on := 2, ground := Go.Ground.phase }, { on := 3, ground := Go.Ground.phase }, { on := 4, ground := Go.Ground.phase }, { on := 5, ground := Go.Ground.phase }, { on := 6, ground := Go.Ground.phase }, { on := 7, ground := Go.Ground.phase }], guard := none }) rfl (fun K hK => ?_) AllReadyH.nil
  go_simp
  refine hK.out _ _ ?_ (fun hH2 => ?_)
  · (try dsimp only); exact ⟨(by repeat (first | exact k0 | refine cell_set ?_ (by first | assumption | (dsimp only; assumption) | (dsimp only; omega)) | refine cell_alloc ?_ | refine cell_drew ?_)), (by repeat (first | exact k2 | refine cell_set ?_ (by first | assumption | (dsimp only; assumption) | (dsimp only; omega)) | refine cell_alloc ?_ | refine cell_drew ?_)), (by repeat (first | exact k3 | refine cell_set ?_ (by first | assumption | (dsimp only; assumption) | (dsimp only; omega)) | refine cell_alloc ?_ | refine cell_drew ?_))⟩
  clear hK K
  clear hH1
  try simp only [Act.put, List.setIfInBounds_toArray, List.set_cons_zero, List.set_cons_succ]
  refine wpAnyH_done (by kernel_rfl) ?_ _
  refine onlyN_normal ?_
  skip
  rw [u1.out, h1.out]
  clear hH2 k0 k1 k2 k3 k4 cF j0 j1 h1
  have k0 : w1.cell? ⟨pB, 0, none⟩ = some (.pointer (some ⟨wB, 0, none⟩)) := HP1.out.cell 0
  have k1 : w1.cell? ⟨wB, 0, none⟩ = some (.slice (some ⟨sb, so, none⟩) S.length cS) := HG1.out.wb.cell 0
  have k3 : w1.cell? ⟨iB, 0, none⟩ = some (.int .i64 x) := HI1.out.cell 0
  obtain ⟨sb1, so1, F1, cf1, hA1, hsb1, j0, j1, jr1⟩ := HG1.out.sm i s HS.out
  obtain ⟨rfl, rfl⟩ : sb = sb1 ∧ so = so1 := by simp only [Option.some.injEq, Addr.mk.injEq] at hA1; exact ⟨hA1.1, hA1.2.1⟩
  clear jr1 hA1 j1
  go_wp2_with fail
  go_region_held3 (fun w' => w'.cell? ⟨pB, 0, none⟩ = some (.pointer (some ⟨wB, 0, none⟩)) ∧ w'.cell? ⟨wB, 0, none⟩ = some (.slice (some ⟨sb, so, none⟩) S.length cS) ∧ w'.cell? ⟨iB, 0, none⟩ = some (.int .i64 x) ∧ w'.cell? ⟨sb, so + i * 2, none⟩ = some (.int .i64 s.1)) (first | with_reducible exact ⟨k0, k1, k3, j0⟩ | go_keep) (fail)
  go_wp2_with fail
  go_loopw [3, 4] (fun nv kv wr => ∃ (k : Nat) (v1 : Value) (J : List Nat) (R1 : List Int) (um1 : Nat), k ≤ 4 ∧ k ≤ s.2.length ∧ nv = .int .i64 ((s.2.take k).foldl (addV (valS S) i) s.1) ∧ kv = .int .i64 k ∧ Hid (GS S (some ⟨sb, so, none⟩) cS b E m L P U wB rB wr v1 J R1 um1 B ∧ LKeep [rB] L P U v w1 v1 wr ∧ (∀ j ∈ I, j ∈ J) ∧ (∀ j ∈ J, j ∈ I ∨ j < i) ∧ (∀ f ∈ s.2.take k, ∀ t, toOf i f = some t → t ∈ J) ∧ RanTo I J (R.set i 1) R1 ∧ um1 + I.length ≤ um + J.length)) (fun _ kv _ => 4 - (intOf kv).toNat)
  case atStart => exact ⟨0, v, I, R.set i 1, um, by omega, by omega, rfl, rfl, HG1.out.below (by (repeat' (first | with_reducible exact Below.refl _ _ | with_reducible assumption | with_reducible refine Below.drew ?_ | with_reducible refine below_drewN ?_ _ | with_reducible refine Below.setCell ?_ ?_ _ | with_reducible refine Below.alloc ?_ ?_ _ | omega | (simp; done) | (simp; omega)))), LKeep.ofBelow (by (repeat' (first | with_reducible exact Below.refl _ _ | with_reducible assumption | with_reducible refine Below.drew ?_ | with_reducible refine below_drewN ?_ _ | with_reducible refine Below.setCell ?_ ?_ _ | with_reducible refine Below.alloc ?_ ?_ _ | omega | (simp; done) | (simp; omega)))), fun _ h => h, fun _ h => .inl h, fun f h => (by simp at h), RanTo.refl _ _, Nat.le_refl _⟩
  case round =>
    obtain ⟨k, v1, J, R1, um1, hk4, hkl, rfl, rfl, hH⟩ := hrel
    obtain ⟨hg, hkp, hs1, hs2, hs3, hs4, hs5⟩ := hH.out
    have HG := Lib.hid hg
    have HKP := Lib.hid hkp
    have HS1 := Lib.hid hs1
    have HS2 := Lib.hid hs2
    have HS3 := Lib.hid hs3
    have HS4 := Lib.hid hs4
    clear k0 k1 k3 j0
    have k0 : wr.cell? ⟨pB, 0, none⟩ = some (.pointer (some ⟨wB, 0, none⟩)) := (hkp.box HP1.out (by simp [n2])).cell 0
    have k1 : wr.cell? ⟨wB, 0, none⟩ = some (.slice (some ⟨sb, so, none⟩) S.length cS) := hg.wb.cell 0
    have k3 : wr.cell? ⟨iB, 0, none⟩ = some (.int .i64 x) := (hkp.box HI1.out (by simp [n3])).cell 0
    obtain ⟨sb2, so2, F2, cf2, hA2, hsb2, _, j1, jr2⟩ := hg.sm i s HS.out
    obtain ⟨rfl, rfl⟩ : sb = sb2 ∧ so = so2 := by simp only [Option.some.injEq, Addr.mk.injEq] at hA2; exact ⟨hA2.1, hA2.2.1⟩
    have HNN := Lib.hid (fold_mild (g := valS S) (i := i) (s.2.take k) s.1 (hM s (List.mem_of_getElem? HS.out)))
    obtain ⟨n, hnn⟩ : ∃ n, (s.2.take k).foldl (addV (valS S) i) s.1 = n := ⟨_, rfl⟩
    rw [hnn] at HNN ⊢
    have nb := HNN.out
    have HN2 := Lib.hid hnn
    clear hnn hg hkp hs1 hs2 hs3 hs4 hH HNN hA2 hsb2
    by_cases hlt : k < s.2.length
    · by_cases hl4 : k < 4
      · obtain ⟨f, hf⟩ : ∃ f, s.2[k]? = some f := ⟨s.2[k], List.getElem?_eq_getElem hlt⟩
        obtain ⟨fb, fo, rfl, hfb, hcf⟩ := jr2 k f hf
        have j2 : wr.cell? ⟨fb, fo + k, none⟩ = some (.int .i64 f) := by have := hcf 0 _ rfl; simpa using this
        have HF := Lib.hid hf
        have HFB := Lib.hid (hF s (List.mem_of_getElem? HS.out) f (List.mem_of_getElem? hf))
        have HTK : Hid (s.2.take (k + 1) = s.2.take k ++ [f]) := take_snoc hf
        obtain ⟨y, hy⟩ : ∃ y, IntKind.i64.wrap (x - f) = y := ⟨_, rfl⟩
        have HW := Lib.hid (to_wrap (i := i) (f := f) (y := y) (by omega) HFB.out (by rw [← HXI.out]; exact hy))
        have l1 : (k : Int) < (s.2.length : Int) := by omega
        have l2 : (k : Int) < 4 := by omega
        clear hf hcf jr2 hfb
        go_wp2_with fail
        go_region_held3 (fun w' => w'.cell? ⟨pB, 0, none⟩ = some (.pointer (some ⟨wB, 0, none⟩)) ∧ w'.cell? ⟨wB, 0, none⟩ = some (.slice (some ⟨sb, so, none⟩) S.length cS) ∧ w'.cell? ⟨iB, 0, none⟩ = some (.int .i64 x) ∧ w'.cell? ⟨sb, so + i * 2 + 1, none⟩ = some (.slice (some ⟨fb, fo, none⟩) s.2.length cf2)) (first | with_reducible exact ⟨k0, k1, k3, j1⟩ | go_keep) (fail)
        go_wp2_with fail
        go_region_held3 (fun w' => w'.cell? ⟨pB, 0, none⟩ = some (.pointer (some ⟨wB, 0, none⟩)) ∧ w'.cell? ⟨wB, 0, none⟩ = some (.slice (some ⟨sb, so, none⟩) S.length cS) ∧ w'.cell? ⟨iB, 0, none⟩ = some (.int .i64 x) ∧ w'.cell? ⟨sb, so + i * 2 + 1, none⟩ = some (.slice (some ⟨fb, fo, none⟩) s.2.length cf2) ∧ w'.cell? ⟨fb, fo + k, none⟩ = some (.int .i64 f)) (first | with_reducible exact ⟨k0, k1, k3, j1, j2⟩ | go_keep) (fail)
        by_cases hy2 : 0 ≤ y ∧ y < x
        · obtain ⟨hto, hti, hyt⟩ := HW.out.1 ⟨hy2.1, by rw [← HXI.out]; exact hy2.2⟩
          obtain ⟨t, ht⟩ : ∃ t, y.toNat = t := ⟨_, rfl⟩
          rw [ht] at hto hti hyt
          have HTO := Lib.hid hto
          have HC := Lib.hid (fun W (hW : Below wr.heap.size wr W) => HIH.out t hti y W v1 J R1 um1 B hyt (by omega) (HG.out.below hW) ((HR.out.set hti 1).to HS4.out HS1.out) (fun j hj => HBB.out j (by omega)) (by omega))
          have HVT := Lib.hid (valS_mild hM t)
          obtain ⟨z, hz⟩ : ∃ z, valS S t = z := ⟨_, rfl⟩
          rw [hz] at HVT
          have zb := HVT.out
          have HAV : Hid (addV (valS S) i n f = (n + z).tmod 1000003) := by show _ = _; unfold addV; rw [HTO.out]; dsimp only; rw [hz]
          have e1 : IntKind.i64.wrap (n + z) = n + z := by simp [IntKind.wrap, IntKind.signed, IntKind.bits]; omega
          have e2 : IntKind.i64.wrap ((n + z).tmod 1000003) = (n + z).tmod 1000003 := by
            have h1 := Int.lt_tmod_of_pos (n + z) (show (0 : Int) < 1000003 by omega)
            have h2 := Int.tmod_lt_of_pos (n + z) (show (0 : Int) < 1000003 by omega)
            simp [IntKind.wrap, IntKind.signed, IntKind.bits]; omega
          have HZ := Lib.hid hz
          obtain ⟨hy3, hy4⟩ := hy2
          clear hto hyt ht hz
          go_wp2_with fail
          refine (HC.out _ (by (repeat' (first | with_reducible exact Below.refl _ _ | with_reducible assumption | with_reducible refine Below.drew ?_ | with_reducible refine below_drewN ?_ _ | with_reducible refine Below.setCell ?_ ?_ _ | with_reducible refine Below.alloc ?_ ?_ _ | omega | (simp; done) | (simp; omega))))).mono ?_
          rintro e w2 ⟨v2, J2, R2, um2, rfl, g2, t2, m2⟩
          rw [HZ.out]
          have G2 := Lib.hid g2
          have T2 := Lib.hid t2
          have M2 := Lib.hid m2
          have HB2 : Hid (LKeep [rB] L P U v w1 v2 w2) := (HKP.out.trans (LKeep.ofBelow (by (repeat' (first | with_reducible exact Below.refl _ _ | with_reducible assumption | with_reducible refine Below.drew ?_ | with_reducible refine below_drewN ?_ _ | with_reducible refine Below.setCell ?_ ?_ _ | with_reducible refine Below.alloc ?_ ?_ _ | omega | (simp; done) | (simp; omega)))))).trans t2.keep
          clear g2 t2 m2
          go_wp2_with fail
          go_roundw
          case rel =>
            refine ⟨k + 1, v2, J2, R2, um2, by omega, by omega, ?_, by go_num, G2.out.below (by (repeat' (first | with_reducible exact Below.refl _ _ | with_reducible assumption | with_reducible refine Below.drew ?_ | with_reducible refine below_drewN ?_ _ | with_reducible refine Below.setCell ?_ ?_ _ | with_reducible refine Below.alloc ?_ ?_ _ | omega | (simp; done) | (simp; omega)))), HB2.out.trans (LKeep.ofBelow (by (repeat' (first | with_reducible exact Below.refl _ _ | with_reducible assumption | with_reducible refine Below.drew ?_ | with_reducible refine below_drewN ?_ _ | with_reducible refine Below.setCell ?_ ?_ _ | with_reducible refine Below.alloc ?_ ?_ _ | omega | (simp; done) | (simp; omega))))), fun j hj => T2.out.sub j (HS1.out j hj), fun j hj => ?_, fun g hg t' ht' => ?_, HS4.out.trans T2.out.ran HS1.out T2.out.sub, ?_⟩
            · rw [HTK.out, List.foldl_append, HN2.out]
              show _ = Value.int .i64 (addV (valS S) i n f)
              rw [HAV.out]
            · rcases T2.out.le j hj with e | e
              · exact HS2.out j e
              · exact .inr (by omega)
            · rw [HTK.out] at hg
              rcases List.mem_append.1 hg with e | e
              · exact T2.out.sub _ (HS3.out g e t' ht')
              · rw [List.mem_singleton.1 e, HTO.out] at ht'
                injection ht' with ht'
                rw [← ht']
                exact M2.out
            · have := T2.out.um
              omega
          case measure => simp [intOf]; omega
        · have hno := HW.out.2 (fun h => hy2 ⟨h.1, by rw [HXI.out]; exact h.2⟩)
          have HNO := Lib.hid hno
          have HAV : Hid (addV (valS S) i n f = n) := by show _ = _; unfold addV; rw [hno]
          have hy3 : ¬ 0 ≤ y ∨ ¬ y < x := by omega
          clear hno hy2
          by_cases hy4 : 0 ≤ y
          all_goals (
            go_wp2_with fail
            go_roundw
            case rel =>
              refine ⟨k + 1, v1, J, R1, um1, by omega, by omega, ?_, by go_num, HG.out.below (by (repeat' (first | with_reducible exact Below.refl _ _ | with_reducible assumption | with_reducible refine Below.drew ?_ | with_reducible refine below_drewN ?_ _ | with_reducible refine Below.setCell ?_ ?_ _ | with_reducible refine Below.alloc ?_ ?_ _ | omega | (simp; done) | (simp; omega)))), HKP.out.trans (LKeep.ofBelow (by (repeat' (first | with_reducible exact Below.refl _ _ | with_reducible assumption | with_reducible refine Below.drew ?_ | with_reducible refine below_drewN ?_ _ | with_reducible refine Below.setCell ?_ ?_ _ | with_reducible refine Below.alloc ?_ ?_ _ | omega | (simp; done) | (simp; omega))))), HS1.out, HS2.out, fun g hg t' ht' => ?_, HS4.out, hs5⟩
              · rw [HTK.out, List.foldl_append, HN2.out]
                show _ = Value.int .i64 (addV (valS S) i n f)
                rw [HAV.out]
              · rw [HTK.out] at hg
                rcases List.mem_append.1 hg with e | e
                · exact HS3.out g e t' ht'
                · rw [List.mem_singleton.1 e, HNO.out] at ht'
                  cases ht'
            case measure => simp [intOf]; omega)
      · have l2 : ¬ (k : Int) < 4 := by omega
        have l1 : (k : Int) < (s.2.length : Int) := by omega
        have HTK : Hid (s.2.take k = s.2.take 4) := by show _ = _; rw [show k = 4 by omega]
        go_wp2_with fail
        go_region_held3 (fun w' => w'.cell? ⟨pB, 0, none⟩ = some (.pointer (some ⟨wB, 0, none⟩)) ∧ w'.cell? ⟨wB, 0, none⟩ = some (.slice (some ⟨sb, so, none⟩) S.length cS) ∧ w'.cell? ⟨iB, 0, none⟩ = some (.int .i64 x) ∧ w'.cell? ⟨sb, so + i * 2 + 1, none⟩ = some (.slice F2 s.2.length cf2)) (first | with_reducible exact ⟨k0, k1, k3, j1⟩ | go_keep) (fail)
        go_wp2_with fail
        go_ret
        exact ⟨v1, J, R1, um1, by rw [valS_eq S i s HS.out, ← HN2.out, HTK.out]; rfl, HG.out.below (by (repeat' (first | with_reducible exact Below.refl _ _ | with_reducible assumption | with_reducible refine Below.drew ?_ | with_reducible refine below_drewN ?_ _ | with_reducible refine Below.setCell ?_ ?_ _ | with_reducible refine Below.alloc ?_ ?_ _ | omega | (simp; done) | (simp; omega)))), (HK1.out.trans HKP.out).trans (LKeep.ofBelow (by (repeat' (first | with_reducible exact Below.refl _ _ | with_reducible assumption | with_reducible refine Below.drew ?_ | with_reducible refine below_drewN ?_ _ | with_reducible refine Below.setCell ?_ ?_ _ | with_reducible refine Below.alloc ?_ ?_ _ | omega | (simp; done) | (simp; omega))))), HS1.out, HS2.out, fun s' hs' f hf => by (obtain rfl := Option.some.inj (hs'.symm.trans HS.out); rw [← HTK.out] at hf; exact HS3.out f hf), HS4.out, hs5⟩
    · have l1 : ¬ (k : Int) < (s.2.length : Int) := by omega
      have HTK : Hid (s.2.take k = s.2.take 4) := by show _ = _; rw [List.take_of_length_le (by omega), List.take_of_length_le (by omega)]
      go_wp2_with fail
      go_quiet (fail)
      go_wp2_with fail
      go_ret
      exact ⟨v1, J, R1, um1, by rw [valS_eq S i s HS.out, ← HN2.out, HTK.out]; rfl, HG.out.below (by (repeat' (first | with_reducible exact Below.refl _ _ | with_reducible assumption | with_reducible refine Below.drew ?_ | with_reducible refine below_drewN ?_ _ | with_reducible refine Below.setCell ?_ ?_ _ | with_reducible refine Below.alloc ?_ ?_ _ | omega | (simp; done) | (simp; omega)))), (HK1.out.trans HKP.out).trans (LKeep.ofBelow (by (repeat' (first | with_reducible exact Below.refl _ _ | with_reducible assumption | with_reducible refine Below.drew ?_ | with_reducible refine below_drewN ?_ _ | with_reducible refine Below.setCell ?_ ?_ _ | with_reducible refine Below.alloc ?_ ?_ _ | omega | (simp; done) | (simp; omega))))), HS1.out, HS2.out, fun s' hs' f hf => by (obtain rfl := Option.some.inj (hs'.symm.trans HS.out); rw [← HTK.out] at hf; exact HS3.out f hf), HS4.out, hs5⟩

end Go.Proofs.YtodlbfekoohpoaaDoor
