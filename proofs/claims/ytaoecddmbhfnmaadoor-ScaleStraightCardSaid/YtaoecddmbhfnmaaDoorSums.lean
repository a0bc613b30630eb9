/- titheref.Fracs and frac.Sum, walked: a copy in new memory; the sum from left to right. -/
import Derived.Test.YtaoecddmbhfnmaaDoorFracG
import Derived.Test.YtaoecddmbhfnmaaDoorSlice
import Derived.OwnWalk
namespace Go.Proofs.YtaoecddmbhfnmaaDoor
open Go.RowKit

def encF (x : Int × Int) : List Value := [.int .i64 x.1, .int .i64 x.2]
theorem encF_len (x : Int × Int) : (encF x).length = 2 := rfl
/-- both are numbers of Go's int -/
def In2 (x : Int × Int) : Prop := -9223372036854775808 ≤ x.1 ∧ x.1 ≤ 9223372036854775807 ∧ -9223372036854775808 ≤ x.2 ∧ x.2 ≤ 9223372036854775807
theorem infoFrac : (Tryd.prog.info? 24).map (fun i => (i.zero, i.size, i.bytes)) = some (some (.agg #[.int .i64 0, .int .i64 0]), 2, 16) := by kernel_rfl
theorem take_snoc {α : Type} {l : List α} {k : Nat} {x : α} (hx : l[k]? = some x) : l.take (k + 1) = l.take k ++ [x] := by
  rw [List.take_add_one, hx]; rfl
theorem nextH {W w1 : World} {g : Nat} {x : Obj} (hb : Below W.heap.size W w1) (h : Hid (W.heap[g]? = some x)) : Hid (w1.heap[g]? = some x) := keepH hb h.out
theorem newH {w : World} {o : Obj} : Hid ((w.alloc o).heap[w.heap.size]? = some o) := blk_new rfl
theorem oldH {w : World} {o x : Obj} {g : Nat} (h : Hid (w.heap[g]? = some x)) : Hid ((w.alloc o).heap[g]? = some x) := blk_old h.out

/-- the fraction that a valid pair is -/
def fq (q : Rat) : Int × Int := (q.num, q.den)
/-- the sum from left to right, each step within range -/
def foldR : Rat → List Rat → Except Nat Rat
  | a, [] => .ok a
  | a, q :: r => if Good (a + q) then foldR (a + q) r else .error 5
def toQ (x : Int × Int) : Rat := Rat.divInt x.1 x.2
theorem toQ_fq (q : Rat) : toQ (fq q) = q := Rat.num_divInt_den q
def allV (l : List (Int × Int)) : Bool := l.all fun x => validB x.1 x.2
/-- what Sum answers -/
def sumI (l : List (Int × Int)) : Except Nat Rat := if allV l = true then foldR 0 (l.map toQ) else .error 2
theorem sumI_bad {l : List (Int × Int)} {x : Int × Int} (hx : x ∈ l) (hv : validB x.1 x.2 = false) : sumI l = .error 2 := by
  unfold sumI
  rw [if_neg]
  intro h
  have := List.all_eq_true.1 h x hx
  rw [hv] at this
  cases this
theorem all_fq {l : List (Int × Int)} (h : ∀ x ∈ l, validB x.1 x.2 = true) : ∃ qs : List Rat, l = qs.map fq ∧ ∀ q ∈ qs, Good q := by
  induction l with
  | nil => exact ⟨[], rfl, fun q h => by simp at h⟩
  | cons x r ih =>
    obtain ⟨qs, rfl, hq⟩ := ih fun y hy => h y (List.mem_cons_of_mem _ hy)
    obtain ⟨q, hg, h1, h2⟩ := good_of_validB (h x (List.mem_cons_self ..))
    refine ⟨q :: qs, ?_, fun p hp => ?_⟩
    · rw [List.map_cons]; congr 1; exact Prod.ext h1 h2
    · rcases List.mem_cons.1 hp with rfl | hp
      · exact hg
      · exact hq p hp
theorem sumI_fq {qs : List Rat} (h : ∀ q ∈ qs, Good q) : sumI (qs.map fq) = foldR 0 qs := by
  unfold sumI
  rw [if_pos]
  · congr 1
    rw [List.map_map]
    have : toQ ∘ fq = id := funext toQ_fq
    rw [this, List.map_id]
  · unfold allV
    rw [List.all_eq_true]
    intro x hx
    obtain ⟨q, hq, rfl⟩ := List.mem_map.1 hx
    show validB q.num q.den = true
    rw [validB_good]
    exact decide_eq_true (h q hq)
theorem foldR_step {qs : List Rat} {k : Nat} {a q : Rat} (hq : qs[k]? = some q) : foldR a (qs.drop k) = if Good (a + q) then foldR (a + q) (qs.drop (k + 1)) else .error 5 := by
  have hk : k < qs.length := (List.getElem?_eq_some_iff.1 hq).1
  rw [List.drop_eq_getElem_cons hk]
  have : qs[k] = q := (List.getElem?_eq_some_iff.1 hq).2
  rw [this]; rfl
theorem resF_two {E : Nat → Addr} {q : Rat} {n d : Int} {err : Value} (h : ResF E (goodR q) n d err) : (Good q ∧ n = q.num ∧ d = q.den ∧ err = .nilIface) ∨ (¬ Good q ∧ n = 0 ∧ d = 0 ∧ err = (.iface 131 (.pointer (some (E 5))))) := by
  unfold goodR at h
  by_cases hg : Good q
  · rw [if_pos hg] at h; exact .inl ⟨hg, h⟩
  · rw [if_neg hg] at h; exact .inr ⟨hg, h⟩
theorem good_zero : Good 0 := by decide +kernel
theorem bds {q : Rat} (h : Good q) : -9223372036854775808 ≤ q.num ∧ q.num ≤ 9223372036854775807 ∧ -9223372036854775808 ≤ (q.den : Int) ∧ (q.den : Int) ≤ 9223372036854775807 := by
  obtain ⟨a, b, c, d⟩ := num_le h; omega

set_option maxHeartbeats 2000000 in
theorem sum_any (l : List (Int × Int)) (A : Option Addr) (c : Nat) (E : Nat → Addr) (w : World) (hc : l.length ≤ c) (hm : c ≤ maxLen) (hl : RowAt encF 2 w w.heap.size A l) (hI : ∀ x ∈ l, In2 x) (hE : Env LF E w) :
    Calls Tryd.prog 20 #[.slice A l.length c] w fun e w' => (∃ n d err, e = .returned (.tuple #[.agg #[.int .i64 n, .int .i64 d], err]) ∧ ResF E (sumI l) n d err) ∧ Below w.heap.size w w' := by
  unfold maxLen at hm
  obtain ⟨_, hltE, _⟩ := hE.sent 2 (by decide)
  have hne : w.heap.size ≠ 2 := by omega
  have hne1 : 2 < w.heap.size + 1 ∧ 2 < w.heap.size + 1 + 1 ∧ 2 < w.heap.size + 1 + 1 + 1 ∧ 2 < w.heap.size + 1 + 1 + 1 + 1 := by omega
  have HE := Lib.hid hE
  have HL := Lib.hid hl
  have HI := Lib.hid hI
  clear hE hl hI
  go_enter Tryd.func20, Tryd.ntmps20
  go_wp2_with fail
  go_loopw [12] (fun i wr => ∃ k : Nat, k ≤ l.length ∧ i = .int .i64 k ∧ Hid (∀ j x, j < k → l[j]? = some x → validB x.1 x.2 = true) ∧ Below w.heap.size w wr ∧ Hid (wr.heap[w.heap.size]? = some (.cells #[.int .i64 0, .int .i64 0] 24 (0, 0)))) (fun i _ => l.length - (intOf i).toNat)
  case atStart => exact ⟨0, Nat.zero_le _, rfl, fun j x h => by omega, by (repeat' (first | with_reducible exact Below.refl _ _ | with_reducible assumption | with_reducible refine Below.drew ?_ | with_reducible refine below_drewN ?_ _ | with_reducible refine Below.setCell ?_ ?_ _ | with_reducible refine Below.alloc ?_ ?_ _ | omega | (simp; done) | (simp; omega))), newH⟩
  case round =>
    obtain ⟨k, hk, rfl, hv, hb, hr⟩ := hrel
    have hz := hb.size
    have ltr := lt_of_H hr
    by_cases hlt : k < l.length
    · obtain ⟨⟨xn, xd⟩, hx⟩ : ∃ x, l[k]? = some x := ⟨l[k], List.getElem?_eq_getElem hlt⟩
      obtain ⟨b, off, rfl, hbB, hcell⟩ := HL.out.below hb (Nat.le_refl _) k _ hx
      have c0 : wr.cell? ⟨b, off + k * 2, none⟩ = some (.int .i64 xn) := hcell 0 _ rfl
      have c1 : wr.cell? ⟨b, off + k * 2 + 1, none⟩ = some (.int .i64 xd) := hcell 1 _ rfl
      have HX := Lib.hid hx
      clear hx hcell
      have I := Lib.hid (HI.out _ (List.mem_of_getElem? HX.out))
      have V := fracValid_any xn xd
      unfold pv at V
      cases hvx : validB xn xd
      · rw [hvx] at V
        have HV := Lib.hid V
        have HVX := Lib.hid hvx
        clear V hvx
        go_wp2_with fail
        refine (HV.out _ I.out.1 I.out.2.1 I.out.2.2.1 I.out.2.2.2).mono ?_
        rintro e w1 ⟨rfl, hb1⟩
        have hw1 : Below w.heap.size w w1 := stepH (by (repeat' (first | with_reducible exact Below.refl _ _ | with_reducible assumption | with_reducible refine Below.drew ?_ | with_reducible refine below_drewN ?_ _ | with_reducible refine Below.setCell ?_ ?_ _ | with_reducible refine Below.alloc ?_ ?_ _ | omega | (simp; done) | (simp; omega)))) hb1
        have R := nextH hb1 (oldH hr)
        have cR := cellH R
        have fR := frozH R
        have z1 := hw1.size
        have hc' := (HE.out.below hw1).cell 2 (by decide)
        go_wp2_with fail
        go_region
        all_goals go_wp2_with fail
        refine bodyPost_ret (v := .tuple #[.agg #[.int .i64 0, .int .i64 0], (.iface 131 (.pointer (some (E 2))))]) (by simp [results, Tryd.results20, go_sem, cR]) rfl ⟨⟨_, _, _, rfl, ?_⟩, by (repeat' (first | with_reducible exact Below.refl _ _ | with_reducible assumption | with_reducible refine Below.drew ?_ | with_reducible refine below_drewN ?_ _ | with_reducible refine Below.setCell ?_ ?_ _ | with_reducible refine Below.alloc ?_ ?_ _ | omega | (simp; done) | (simp; omega)))⟩
        rw [sumI_bad (List.mem_of_getElem? HX.out) HVX.out]
        exact ⟨rfl, rfl, rfl⟩
      · rw [hvx] at V
        have HV := Lib.hid V
        have HVX := Lib.hid hvx
        clear V hvx
        go_wp2_with fail
        refine (HV.out _ I.out.1 I.out.2.1 I.out.2.2.1 I.out.2.2.2).mono ?_
        rintro e w1 ⟨rfl, hb1⟩
        have hw1 : Below w.heap.size w w1 := stepH (by (repeat' (first | with_reducible exact Below.refl _ _ | with_reducible assumption | with_reducible refine Below.drew ?_ | with_reducible refine below_drewN ?_ _ | with_reducible refine Below.setCell ?_ ?_ _ | with_reducible refine Below.alloc ?_ ?_ _ | omega | (simp; done) | (simp; omega)))) hb1
        have R := nextH hb1 (oldH hr)
        go_wp2_with fail
        go_roundw
        case rel =>
          refine ⟨k + 1, by omega, by go_num, fun j x hj hx => ?_, hw1, R⟩
          rcases Nat.lt_or_ge j k with h | h
          · exact hv.out j x h hx
          · obtain rfl : j = k := by omega
            rw [HX.out] at hx
            cases hx
            exact HVX.out
        case measure => simp [intOf]; omega
    · obtain rfl : k = l.length := by omega
      obtain ⟨qs, hqs, hq⟩ := all_fq (l := l) fun x hx => by
        obtain ⟨j, hj⟩ := List.getElem?_of_mem hx
        exact hv.out j x (List.getElem?_eq_some_iff.1 hj).1 hj
      have HQ := Lib.hid hq
      have LQ : Hid (l.length = qs.length) := by rw [hqs]; exact List.length_map ..
      have HQS := Lib.hid hqs
      clear hv hlt hk hq hqs
      obtain ⟨wo, rfl⟩ : ∃ wo : World, wo = wr := ⟨_, rfl⟩
      go_wp2_with fail
      go_loopw [25] (fun i wx => ∃ (k : Nat) (a : Rat), k ≤ l.length ∧ i = .int .i64 k ∧ Hid (Good a) ∧ Hid (foldR 0 qs = foldR a (qs.drop k)) ∧ Below w.heap.size w wx ∧ Hid (wx.heap[w.heap.size]? = some (.cells #[.int .i64 0, .int .i64 0] 24 (0, 0))) ∧ Hid (wx.heap[wo.heap.size]? = some (.cells #[.int .i64 a.num, .int .i64 a.den] 24 (0, 0)))) (fun i _ => l.length - (intOf i).toNat)
      case atStart => exact ⟨0, 0, Nat.zero_le _, rfl, good_zero, rfl, by (repeat' (first | with_reducible exact Below.refl _ _ | with_reducible assumption | with_reducible refine Below.drew ?_ | with_reducible refine below_drewN ?_ _ | with_reducible refine Below.setCell ?_ ?_ _ | with_reducible refine Below.alloc ?_ ?_ _ | omega | (simp; done) | (simp; omega))), oldH hr, newH⟩
      case round =>
        obtain ⟨k, a, hk, rfl, hg, hf, hb2, hr2, ho⟩ := hrel
        have hz2 := hb2.size
        have lt1 := ltH hr2
        have lt2 := ltH ho
        have cO := cellH ho
        have BA := bds hg.out
        by_cases hlt : k < l.length
        · obtain ⟨q, hx⟩ : ∃ q, qs[k]? = some q := ⟨qs[k]'(by rw [← LQ.out]; exact hlt), List.getElem?_eq_getElem _⟩
          have hx' : l[k]? = some (fq q) := by rw [HQS.out, List.getElem?_map, hx]; rfl
          obtain ⟨b, off, rfl, hbB, hcell⟩ := HL.out.below hb2 (Nat.le_refl _) k _ hx'
          have c0 : wr.cell? ⟨b, off + k * 2, none⟩ = some (.int .i64 q.num) := hcell 0 _ rfl
          have c1 : wr.cell? ⟨b, off + k * 2 + 1, none⟩ = some (.int .i64 q.den) := hcell 1 _ rfl
          have HX := Lib.hid hx
          have GQ := Lib.hid (HQ.out q (List.mem_of_getElem? hx))
          have BQ := bds GQ.out
          clear hx hx' hcell
          go_wp2_with fail
          refine (add_any a.num a.den q.num q.den E _ BA.1 BA.2.1 BA.2.2.1 BA.2.2.2 BQ.1 BQ.2.1 BQ.2.2.1 BQ.2.2.2 (HE.out.below (by (repeat' (first | with_reducible exact Below.refl _ _ | with_reducible assumption | with_reducible refine Below.drew ?_ | with_reducible refine below_drewN ?_ _ | with_reducible refine Below.setCell ?_ ?_ _ | with_reducible refine Below.alloc ?_ ?_ _ | omega | (simp; done) | (simp; omega)))))).mono ?_
          rintro e w1 ⟨⟨n, d, err, rfl, hres⟩, hb1⟩
          have hw1 : Below w.heap.size w w1 := stepH (by (repeat' (first | with_reducible exact Below.refl _ _ | with_reducible assumption | with_reducible refine Below.drew ?_ | with_reducible refine below_drewN ?_ _ | with_reducible refine Below.setCell ?_ ?_ _ | with_reducible refine Below.alloc ?_ ?_ _ | omega | (simp; done) | (simp; omega)))) hb1
          have R := nextH hb1 (oldH hr2)
          have O := nextH hb1 (oldH ho)
          have cO1 := cellH O
          have fO1 := frozH O
          have fR := frozH R
          have cR := cellH R
          have z1 := hw1.size
          have ltO := lt_of_H O
          have hneO : wo.heap.size ≠ w.heap.size := by omega
          rw [opI_good _ hg.out GQ.out] at hres
          rcases resF_two hres with ⟨hg2, rfl, rfl, rfl⟩ | ⟨hg2, rfl, rfl, rfl⟩
          · clear hres
            go_wp2_with fail
            go_roundw
            case rel =>
              refine ⟨k + 1, a + q, by omega, by go_num, hg2, ?_, by (repeat' (first | with_reducible exact Below.refl _ _ | with_reducible assumption | with_reducible refine Below.drew ?_ | with_reducible refine below_drewN ?_ _ | with_reducible refine Below.setCell ?_ ?_ _ | with_reducible refine Below.alloc ?_ ?_ _ | omega | (simp; done) | (simp; omega))), ?_, setH2 O⟩
              · show _ = _
                rw [hf.out, foldR_step HX.out, if_pos hg2]
              · exact setH2o R (Ne.symm hneO)
            case measure => simp [intOf]; omega
          · clear hres
            have R1 := setH2o (u := .int .i64 0) (v := .int .i64 0) R (g := wo.heap.size) (Ne.symm hneO)
            have cR1 := cellH R1
            have fR1 := frozH R1
            go_wp2_with fail
            refine bodyPost_ret (v := .tuple #[.agg #[.int .i64 0, .int .i64 0], (.iface 131 (.pointer (some (E 5))))]) (by simp [results, Tryd.results20, go_sem, cR1]) rfl ⟨⟨_, _, _, rfl, ?_⟩, by (repeat' (first | with_reducible exact Below.refl _ _ | with_reducible assumption | with_reducible refine Below.drew ?_ | with_reducible refine below_drewN ?_ _ | with_reducible refine Below.setCell ?_ ?_ _ | with_reducible refine Below.alloc ?_ ?_ _ | omega | (simp; done) | (simp; omega)))⟩
            rw [HQS.out, sumI_fq HQ.out, hf.out, foldR_step HX.out, if_neg hg2]
            exact ⟨rfl, rfl, rfl⟩
        · obtain rfl : k = l.length := by omega
          have fR := frozH hr2
          have cR := cellH hr2
          go_wp2_with fail
          refine bodyPost_ret (v := .tuple #[.agg #[.int .i64 a.num, .int .i64 a.den], .nilIface]) (by simp [results, Tryd.results20, go_sem, cR]) rfl ⟨⟨_, _, _, rfl, ?_⟩, by (repeat' (first | with_reducible exact Below.refl _ _ | with_reducible assumption | with_reducible refine Below.drew ?_ | with_reducible refine below_drewN ?_ _ | with_reducible refine Below.setCell ?_ ?_ _ | with_reducible refine Below.alloc ?_ ?_ _ | omega | (simp; done) | (simp; omega)))⟩
          rw [HQS.out, sumI_fq HQ.out, hf.out, LQ.out, List.drop_length]
          exact ⟨rfl, rfl, rfl⟩
end Go.Proofs.YtaoecddmbhfnmaaDoor
