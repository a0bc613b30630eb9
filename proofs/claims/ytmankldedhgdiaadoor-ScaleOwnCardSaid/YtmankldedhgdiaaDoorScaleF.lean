/- Rate, borne, behind: walks. -/
import Derived.Test.YtmankldedhgdiaaDoorScaleD
namespace Go.Proofs.YtmankldedhgdiaaDoor
open Go.RowKit

/-- the rate of the last bracket below x -/
def rateL (x : Rat) : Rat → List (Rat × Rat) → Rat
  | r, [] => r
  | r, b :: l => rateL x (if b.1 < x then b.2 else r) l

theorem rateL_snoc (x r : Rat) (l : List (Rat × Rat)) (b : Rat × Rat) : rateL x r (l ++ [b]) = if b.1 < x then b.2 else rateL x r l := by
  induction l generalizing r with
  | nil => rfl
  | cons c l ih => exact ih _

def rateI (s : List BI) (n d : Int) : Except Nat Rat :=
  match askE s n d with
  | some g => .error g
  | none => .ok (rateL (Rat.divInt n d) 0 (s.map fracB))

theorem rateI_err {s : List BI} {n d : Int} {g : Nat} (h : askE s n d = some g) : rateI s n d = .error g := by unfold rateI; rw [h]
theorem rateI_good {gs : List (Rat × Rat)} {x : Rat} (h : askE (gs.map bR) x.num x.den = none) : rateI (gs.map bR) x.num x.den = .ok (rateL x 0 gs) := by unfold rateI; rw [h, fracB_bR, Rat.num_divInt_den]

theorem cmp_ge2 {p q : Rat} (h : ¬ p < q) : cmpQ p q = 0 ∨ cmpQ p q = 1 := by
  unfold cmpQ
  rw [if_neg h]
  split <;> omega

set_option maxRecDepth 100000 in
set_option maxHeartbeats 4000000 in
theorem rate15_any (s : List BI) (A : Option Addr) (c : Nat) (n d : Int) (E : Nat → Addr) (w : World) (hl : RowAt encR 4 w w.heap.size A s) (hm : s.length ≤ 9223372036854775807) (hI : ∀ b ∈ s, In4 b) (Bn : -9223372036854775808 ≤ n ∧ n ≤ 9223372036854775807) (Bd : -9223372036854775808 ≤ d ∧ d ≤ 9223372036854775807) (hE : Env LC E w) :
    Calls Tryd.prog 21 #[.slice A s.length c, .agg #[.int .i64 n, .int .i64 d]] w fun e w' =>
      (∃ n' d' err, e = .returned (.tuple #[.agg #[.int .i64 n', .int .i64 d'], err]) ∧ ResF E (rateI s n d) n' d' err) ∧ Below w.heap.size w w' := by
  have HASK := Lib.hid (fun w' (h : Below w.heap.size w w') => ask15_any s A c n d E w' ((hl.below h (Nat.le_refl _)).more h.size) hm hI Bn Bd (hE.below h))
  cases hs : askE s n d
  · obtain ⟨hs1, hv⟩ := askE_none hs
    obtain ⟨gs, rfl, hgood, hlen, hpos, _⟩ := scaleE_none hs1
    obtain ⟨x, hx, rfl, rfl⟩ := good_of_validB hv
    have HATI := Lib.hid (rateI_good hs)
    rw [List.length_map] at *
    have HS := Lib.hid hs
    have HE := Lib.hid hE
    have HG := Lib.hid hgood
    have HL := Lib.hid hl
    have HX := Lib.hid hx
    clear hs hs1 hv hI hgood hE hl hx hm Bn Bd
    go_enter Tryd.func21, Tryd.ntmps21
    go_wp2_with fail
    refine (HASK.out _ (by (repeat' (first | with_reducible exact Below.refl _ _ | with_reducible assumption | with_reducible refine Below.drew ?_ | with_reducible refine below_drewN ?_ _ | with_reducible refine Below.setCell ?_ ?_ _ | with_reducible refine Below.alloc ?_ ?_ _ | omega | (simp; done) | (simp; omega))))).mono ?_
    rintro e w1 ⟨rfl, hb1⟩
    have hw1 : Below w.heap.size w w1 := stepH (by (repeat' (first | with_reducible exact Below.refl _ _ | with_reducible assumption | with_reducible refine Below.drew ?_ | with_reducible refine below_drewN ?_ _ | with_reducible refine Below.setCell ?_ ?_ _ | with_reducible refine Below.alloc ?_ ?_ _ | omega | (simp; done) | (simp; omega)))) hb1
    rw [HS.out]
    unfold errV
    have X := keepH hb1 (g := w.heap.size) (blk_old (blk_new rfl))
    have R4 := keepH hb1 (g := w.heap.size + 1) (blk_new (by simp))
    have z1 := hw1.size
    clear hb1
    have cX := cellH X
    obtain ⟨lX, lX1, lX2⟩ := ltH X
    have cR4 := cellH R4
    obtain ⟨lR4, lR41, lR42⟩ := ltH R4
    go_wp2_with fail
    refine (zero15_any _).mono ?_
    rintro e w2 ⟨rfl, hb2⟩
    have hw2 : Below w.heap.size w w2 := stepH (by (repeat' (first | with_reducible exact Below.refl _ _ | with_reducible assumption | with_reducible refine Below.drew ?_ | with_reducible refine below_drewN ?_ _ | with_reducible refine Below.setCell ?_ ?_ _ | with_reducible refine Below.alloc ?_ ?_ _ | omega | (simp; done) | (simp; omega)))) hb2
    replace X := keepH hb2 X.out
    replace R4 := keepH hb2 R4.out
    have z2 := hw2.size
    clear hb2 hw1 z1
    clear cX lX lX1 lX2 cR4 lR4 lR41 lR42
    have cX := cellH X
    obtain ⟨lX, lX1, lX2⟩ := ltH X
    have cR4 := cellH R4
    obtain ⟨lR4, lR41, lR42⟩ := ltH R4
    have hz2 : w.heap.size + 1 < w2.heap.size := lt_of_H R4
    go_wp2_with fail
    have hw3 : Below w.heap.size w (w2.alloc (.cells #[.int .i64 0, .int .i64 1] 24)) := by (repeat' (first | with_reducible exact Below.refl _ _ | with_reducible assumption | with_reducible refine Below.drew ?_ | with_reducible refine below_drewN ?_ _ | with_reducible refine Below.setCell ?_ ?_ _ | with_reducible refine Below.alloc ?_ ?_ _ | omega | (simp; done) | (simp; omega)))
    replace X : Hid ((w2.alloc (.cells #[.int .i64 0, .int .i64 1] 24)).heap[w.heap.size]? = some (.cells #[.int .i64 x.num, .int .i64 x.den] 24 (0, 0))) := (blk_old X.out)
    replace R4 : Hid ((w2.alloc (.cells #[.int .i64 0, .int .i64 1] 24)).heap[w.heap.size + 1]? = some (.cells #[.int .i64 0, .int .i64 0] 24 (0, 0))) := (blk_old R4.out)
    have R : Hid ((w2.alloc (.cells #[.int .i64 0, .int .i64 1] 24)).heap[w2.heap.size]? = some (.cells #[.int .i64 0, .int .i64 1] 24 (0, 0))) := (blk_new rfl)
    clear cX lX lX1 lX2 cR4 lR4 lR41 lR42
    generalize (w2.alloc (.cells #[.int .i64 0, .int .i64 1] 24)) = w3 at *
    have z3 := hw3.size
    have cX := cellH X
    obtain ⟨lX, lX1, lX2⟩ := ltH X
    have cR4 := cellH R4
    obtain ⟨lR4, lR41, lR42⟩ := ltH R4
    have cR := cellH R
    obtain ⟨lR, lR1, lR2⟩ := ltH R
    clear cX lX lX1 lX2 cR4 lR4 lR41 lR42 cR lR lR1 lR2
    go_loopw [20] (fun i wr => ∃ (k : Nat) (r : Rat), k ≤ gs.length ∧ i = .int .i64 k ∧ Hid (rateL x 0 (gs.take k) = r) ∧ Good r ∧ Hid (wr.heap[w2.heap.size]? = some (.cells #[.int .i64 r.num, .int .i64 r.den] 24 (0, 0))) ∧ Hid (wr.heap[w.heap.size]? = some (.cells #[.int .i64 x.num, .int .i64 x.den] 24 (0, 0))) ∧ Hid (wr.heap[w.heap.size + 1]? = some (.cells #[.int .i64 0, .int .i64 0] 24 (0, 0))) ∧ Below w.heap.size w wr) (fun i _ => gs.length - (intOf i).toNat)
    case atStart => exact ⟨0, 0, Nat.zero_le _, rfl, rfl, good_zero, R, X, R4, hw3⟩
    case round =>
      clear R X R4
      obtain ⟨k, r, hk, rfl, hr, hgr, R, X, R4, hw0⟩ := hrel
      have z0 := hw0.size
      have HGR := Lib.hid hgr
      clear hgr
      have q1 : w2.heap.size ≠ w.heap.size := by omega
      have q2 : w2.heap.size ≠ w.heap.size + 1 := by omega
      have q3 : w.heap.size ≠ w.heap.size + 1 := by omega
      by_cases hlt : k < gs.length
      · obtain ⟨b, hb⟩ : ∃ b, gs[k]? = some b := ⟨gs[k], List.getElem?_eq_getElem hlt⟩
        have G0 := Lib.hid (HG.out b (List.mem_of_getElem? hb))
        obtain ⟨g, off, hA, hgB, k0, k1, k2, k3⟩ := cells4 (HL.out.below hw0 (Nat.le_refl _)) (show (gs.map bR)[k]? = some (bR b) by rw [List.getElem?_map, hb]; rfl)
        subst hA
        replace k0 : wr.cell? ⟨g, off + k * 4, none⟩ = some (.int .i64 b.1.num) := k0
        replace k1 : wr.cell? ⟨g, off + k * 4 + 1, none⟩ = some (.int .i64 b.1.den) := k1
        replace k2 : wr.cell? ⟨g, off + k * 4 + 2, none⟩ = some (.int .i64 b.2.num) := k2
        replace k3 : wr.cell? ⟨g, off + k * 4 + 3, none⟩ = some (.int .i64 b.2.den) := k3
        have HRS := Lib.hid (rateL_snoc x 0 (gs.take k) b)
        have HTK := Lib.hid (take_snoc hb)
        clear hb
        obtain ⟨cc, hcc⟩ : ∃ cc, cmpQ b.1 x = cc := ⟨_, rfl⟩
        have HC := Lib.hid hcc
        clear hcc
        by_cases hlx : b.1 < x
        · obtain rfl : cc = -1 := by rw [← HC.out]; exact cmp_lt hlx
          have HR : Hid (rateL x 0 (gs.take (k + 1)) = b.2) := by show _ = _; rw [HTK.out, HRS.out, if_pos hlx]
          clear hlx
          have cR := cellH R
          obtain ⟨lR, lR1, lR2⟩ := ltH R
          have fzR := frozH R
          have cX := cellH X
          obtain ⟨lX, lX1, lX2⟩ := ltH X
          have cR4 := cellH R4
          obtain ⟨lR4, lR41, lR42⟩ := ltH R4
          have fzR4 := frozH R4
          go_wp2_with fail
          refine (cmpS b.1 x _ _ G0.out.1 HX.out HC.out).mono ?_
          rintro e w11 ⟨rfl, hb11⟩
          have hw11 : Below w.heap.size w w11 := stepH (by (repeat' (first | with_reducible exact Below.refl _ _ | with_reducible assumption | with_reducible refine Below.drew ?_ | with_reducible refine below_drewN ?_ _ | with_reducible refine Below.setCell ?_ ?_ _ | with_reducible refine Below.alloc ?_ ?_ _ | omega | (simp; done) | (simp; omega)))) hb11
          replace R := keepH hb11 (blk_old R.out)
          replace X := keepH hb11 (blk_old X.out)
          replace R4 := keepH hb11 (blk_old R4.out)
          have B := keepH hb11 (g := wr.heap.size) (blk_new rfl)
          have z11 := hw11.size
          clear hb11 hw0 z0
          clear cR lR lR1 lR2 fzR cX lX lX1 lX2 cR4 lR4 lR41 lR42 fzR4
          have cR := cellH R
          obtain ⟨lR, lR1, lR2⟩ := ltH R
          have fzR := frozH R
          have cX := cellH X
          obtain ⟨lX, lX1, lX2⟩ := ltH X
          have cR4 := cellH R4
          obtain ⟨lR4, lR41, lR42⟩ := ltH R4
          have fzR4 := frozH R4
          have cB := cellH B
          obtain ⟨lB, lB1, lB2⟩ := ltH B
          go_wp2_with fail
          go_roundw
          case rel => exact ⟨k + 1, b.2, by omega, by go_num, HR, G0.out.2, setH2 R.out, setH2o X (by omega), setH2o R4 (by omega), by (repeat' (first | with_reducible exact Below.refl _ _ | with_reducible assumption | with_reducible refine Below.drew ?_ | with_reducible refine below_drewN ?_ _ | with_reducible refine Below.setCell ?_ ?_ _ | with_reducible refine Below.alloc ?_ ?_ _ | omega | (simp; done) | (simp; omega)))⟩
          case measure => simp [intOf]; omega
        · have hc2 : cc = 0 ∨ cc = 1 := by rw [← HC.out]; exact cmp_ge2 hlx
          have HR : Hid (rateL x 0 (gs.take (k + 1)) = r) := by show _ = _; rw [HTK.out, HRS.out, if_neg hlx]; exact hr.out
          clear hlx
          have cR := cellH R
          obtain ⟨lR, lR1, lR2⟩ := ltH R
          have fzR := frozH R
          have cX := cellH X
          obtain ⟨lX, lX1, lX2⟩ := ltH X
          have cR4 := cellH R4
          obtain ⟨lR4, lR41, lR42⟩ := ltH R4
          have fzR4 := frozH R4
          go_wp2_with fail
          refine (cmpS b.1 x _ _ G0.out.1 HX.out HC.out).mono ?_
          rintro e w12 ⟨rfl, hb12⟩
          have hw12 : Below w.heap.size w w12 := stepH (by (repeat' (first | with_reducible exact Below.refl _ _ | with_reducible assumption | with_reducible refine Below.drew ?_ | with_reducible refine below_drewN ?_ _ | with_reducible refine Below.setCell ?_ ?_ _ | with_reducible refine Below.alloc ?_ ?_ _ | omega | (simp; done) | (simp; omega)))) hb12
          replace R := keepH hb12 (blk_old R.out)
          replace X := keepH hb12 (blk_old X.out)
          replace R4 := keepH hb12 (blk_old R4.out)
          have B := keepH hb12 (g := wr.heap.size) (blk_new rfl)
          have z12 := hw12.size
          clear hb12 hw0 z0
          clear cR lR lR1 lR2 fzR cX lX lX1 lX2 cR4 lR4 lR41 lR42 fzR4
          have cR := cellH R
          obtain ⟨lR, lR1, lR2⟩ := ltH R
          have fzR := frozH R
          have cX := cellH X
          obtain ⟨lX, lX1, lX2⟩ := ltH X
          have cR4 := cellH R4
          obtain ⟨lR4, lR41, lR42⟩ := ltH R4
          have fzR4 := frozH R4
          have cB := cellH B
          obtain ⟨lB, lB1, lB2⟩ := ltH B
          rcases hc2 with rfl | rfl
          all_goals
            go_wp2_with fail
            go_roundw
            case rel => exact ⟨k + 1, r, by omega, by go_num, HR, HGR.out, R, X, R4, by (repeat' (first | with_reducible exact Below.refl _ _ | with_reducible assumption | with_reducible refine Below.drew ?_ | with_reducible refine below_drewN ?_ _ | with_reducible refine Below.setCell ?_ ?_ _ | with_reducible refine Below.alloc ?_ ?_ _ | omega | (simp; done) | (simp; omega)))⟩
            case measure => simp [intOf]; omega
      · obtain rfl : k = gs.length := by omega
        have HR : Hid (rateL x 0 gs = r) := by have h := hr.out; rw [List.take_length] at h; exact h
        have cR := cellH R
        obtain ⟨lR, lR1, lR2⟩ := ltH R
        have fzR := frozH R
        have cX := cellH X
        obtain ⟨lX, lX1, lX2⟩ := ltH X
        have cR4 := cellH R4
        obtain ⟨lR4, lR41, lR42⟩ := ltH R4
        have fzR4 := frozH R4
        go_wp2_with fail
        refine bodyPost_ret (v := .tuple #[.agg #[.int .i64 r.num, .int .i64 r.den], .nilIface]) (by simp [results, Tryd.results21, go_sem, cR4]) rfl ⟨⟨_, _, _, rfl, resF_of (HATI.out.trans (by rw [HR.out]))⟩, by (repeat' (first | with_reducible exact Below.refl _ _ | with_reducible assumption | with_reducible refine Below.drew ?_ | with_reducible refine below_drewN ?_ _ | with_reducible refine Below.setCell ?_ ?_ _ | with_reducible refine Below.alloc ?_ ?_ _ | omega | (simp; done) | (simp; omega)))⟩
  · rename_i g
    have HS := Lib.hid hs
    have hen := fun w => eql_nil (E g) w
    clear hs
    go_enter Tryd.func21, Tryd.ntmps21
    go_wp2_with fail
    refine (HASK.out _ (by (repeat' (first | with_reducible exact Below.refl _ _ | with_reducible assumption | with_reducible refine Below.drew ?_ | with_reducible refine below_drewN ?_ _ | with_reducible refine Below.setCell ?_ ?_ _ | with_reducible refine Below.alloc ?_ ?_ _ | omega | (simp; done) | (simp; omega))))).mono ?_
    rintro e w51 ⟨rfl, hb51⟩
    have hw51 : Below w.heap.size w w51 := stepH (by (repeat' (first | with_reducible exact Below.refl _ _ | with_reducible assumption | with_reducible refine Below.drew ?_ | with_reducible refine below_drewN ?_ _ | with_reducible refine Below.setCell ?_ ?_ _ | with_reducible refine Below.alloc ?_ ?_ _ | omega | (simp; done) | (simp; omega)))) hb51
    rw [HS.out]
    unfold errV
    have X := keepH hb51 (g := w.heap.size) (blk_old (blk_new rfl))
    have R4 := keepH hb51 (g := w.heap.size + 1) (blk_new (by simp))
    have z51 := hw51.size
    clear hb51
    have cX := cellH X
    obtain ⟨lX, lX1, lX2⟩ := ltH X
    have cR4 := cellH R4
    obtain ⟨lR4, lR41, lR42⟩ := ltH R4
    have fzR4 := frozH R4
    go_wp2_with fail
    refine bodyPost_ret (v := .tuple #[.agg #[.int .i64 0, .int .i64 0], .iface 122 (.pointer (some (E g)))]) (by simp [results, Tryd.results21, go_sem, cR4]) rfl ⟨⟨_, _, _, rfl, resF_fail (rateI_err HS.out)⟩, by (repeat' (first | with_reducible exact Below.refl _ _ | with_reducible assumption | with_reducible refine Below.drew ?_ | with_reducible refine below_drewN ?_ _ | with_reducible refine Below.setCell ?_ ?_ _ | with_reducible refine Below.alloc ?_ ?_ _ | omega | (simp; done) | (simp; omega)))⟩

/-- a sum, and what a bracket bears up to t -/
def bornR (b : Rat × Rat) (t s : Rat) : Except Nat Rat :=
  if Good (t - b.1) then (if Good (b.2 * (t - b.1)) then addR s (b.2 * (t - b.1)) else .error 5) else .error 5

/-- the amount at which a bracket has borne what y is above s -/
def behR (b : Rat × Rat) (y s : Rat) : Except Nat Rat :=
  if Good (y - s) then (match divR (y - s) b.2 with | .error g => .error g | .ok v => addR b.1 v) else .error 5

theorem resF_one {E : Nat → Addr} {r : Except Nat Rat} {n d : Int} {err : Value} (h : ResF E r n d err) : (∃ q, r = .ok q ∧ n = q.num ∧ d = q.den ∧ err = .nilIface) ∨ (∃ g, r = .error g ∧ n = 0 ∧ d = 0 ∧ err = .iface 122 (.pointer (some (E g)))) := by
  cases r with
  | ok q => exact .inl ⟨q, rfl, h⟩
  | error g => exact .inr ⟨g, rfl, h⟩
theorem divR_good {p q v : Rat} (h : divR p q = .ok v) : Good v := by
  unfold divR at h
  split at h
  · cases h
  · unfold goodR at h
    split at h
    · cases h; assumption
    · cases h
theorem addR_good {p q v : Rat} (h : addR p q = .ok v) : Good v := by
  unfold addR goodR at h
  split at h
  · cases h; assumption
  · cases h

set_option maxRecDepth 100000 in
set_option maxHeartbeats 4000000 in
theorem borne_any (b : Rat × Rat) (t s : Rat) (E : Nat → Addr) (w : World) (hb : GoodB b) (ht : Good t) (hs : Good s) (hE : Env LC E w) :
    Calls Tryd.prog 45 #[.agg #[.int .i64 b.1.num, .int .i64 b.1.den, .int .i64 b.2.num, .int .i64 b.2.den], .agg #[.int .i64 t.num, .int .i64 t.den], .agg #[.int .i64 s.num, .int .i64 s.den]] w fun e w' =>
      (∃ n' d' err, e = .returned (.tuple #[.agg #[.int .i64 n', .int .i64 d'], err]) ∧ ResF E (bornR b t s) n' d' err) ∧ Below w.heap.size w w' := by
  have HB := Lib.hid hb
  have HT := Lib.hid ht
  have HS := Lib.hid hs
  have HE := Lib.hid hE
  have hen := fun w => eql_nil (E 5) w
  clear hb ht hs hE
  go_enter Tryd.func45, Tryd.ntmps45
  go_wp2_with fail
  refine (sub_any t.num t.den b.1.num b.1.den E _ (bds HT.out).1 (bds HT.out).2.1 (bds HT.out).2.2.1 (bds HT.out).2.2.2 (bds HB.out.1).1 (bds HB.out.1).2.1 (bds HB.out.1).2.2.1 (bds HB.out.1).2.2.2 ((HE.out.below (by (repeat' (first | with_reducible exact Below.refl _ _ | with_reducible assumption | with_reducible refine Below.drew ?_ | with_reducible refine below_drewN ?_ _ | with_reducible refine Below.setCell ?_ ?_ _ | with_reducible refine Below.alloc ?_ ?_ _ | omega | (simp; done) | (simp; omega))))).sub (by decide))).mono ?_
  rintro e w1 ⟨⟨n', d', err, rfl, hr⟩, hb1⟩
  have hw1 : Below w.heap.size w w1 := stepH (by (repeat' (first | with_reducible exact Below.refl _ _ | with_reducible assumption | with_reducible refine Below.drew ?_ | with_reducible refine below_drewN ?_ _ | with_reducible refine Below.setCell ?_ ?_ _ | with_reducible refine Below.alloc ?_ ?_ _ | omega | (simp; done) | (simp; omega)))) hb1
  have B := keepH hb1 (g := w.heap.size) (blk_old (blk_old (blk_old (blk_new rfl))))
  have Tt := keepH hb1 (g := w.heap.size + 1) (blk_old (blk_old (blk_new (by simp))))
  have Ss := keepH hb1 (g := w.heap.size + 1 + 1) (blk_old (blk_new (by simp)))
  have R6 := keepH hb1 (g := w.heap.size + 1 + 1 + 1) (blk_new (by simp))
  have z1 := hw1.size
  clear hb1
  have cB := cellH B
  obtain ⟨lB, lB1, lB2⟩ := ltH B
  have cTt := cellH Tt
  obtain ⟨lTt, lTt1, lTt2⟩ := ltH Tt
  have cSs := cellH Ss
  obtain ⟨lSs, lSs1, lSs2⟩ := ltH Ss
  have cR6 := cellH R6
  obtain ⟨lR6, lR61, lR62⟩ := ltH R6
  have fzR6 := frozH R6
  rcases sub_two HT.out HB.out.1 hr with ⟨g1, rfl, rfl, rfl⟩ | ⟨g1, rfl, rfl, rfl⟩
  all_goals clear hr
  · go_wp2_with fail
    refine (mul_any b.2.num b.2.den (t - b.1).num (t - b.1).den E _ (bds HB.out.2).1 (bds HB.out.2).2.1 (bds HB.out.2).2.2.1 (bds HB.out.2).2.2.2 (bds g1).1 (bds g1).2.1 (bds g1).2.2.1 (bds g1).2.2.2 ((HE.out.below (by (repeat' (first | with_reducible exact Below.refl _ _ | with_reducible assumption | with_reducible refine Below.drew ?_ | with_reducible refine below_drewN ?_ _ | with_reducible refine Below.setCell ?_ ?_ _ | with_reducible refine Below.alloc ?_ ?_ _ | omega | (simp; done) | (simp; omega))))).sub (by decide))).mono ?_
    rintro e w2 ⟨⟨n', d', err, rfl, hr⟩, hb2⟩
    have hw2 : Below w.heap.size w w2 := stepH (by (repeat' (first | with_reducible exact Below.refl _ _ | with_reducible assumption | with_reducible refine Below.drew ?_ | with_reducible refine below_drewN ?_ _ | with_reducible refine Below.setCell ?_ ?_ _ | with_reducible refine Below.alloc ?_ ?_ _ | omega | (simp; done) | (simp; omega)))) hb2
    replace B := keepH hb2 (blk_old B.out)
    replace Tt := keepH hb2 (blk_old Tt.out)
    replace Ss := keepH hb2 (blk_old Ss.out)
    replace R6 := keepH hb2 (blk_old R6.out)
    have Wd := keepH hb2 (g := w1.heap.size) (blk_new rfl)
    have z2 := hw2.size
    clear hb2 hw1 z1
    clear cB lB lB1 lB2 cTt lTt lTt1 lTt2 cSs lSs lSs1 lSs2 cR6 lR6 lR61 lR62 fzR6
    have cB := cellH B
    obtain ⟨lB, lB1, lB2⟩ := ltH B
    have cTt := cellH Tt
    obtain ⟨lTt, lTt1, lTt2⟩ := ltH Tt
    have cSs := cellH Ss
    obtain ⟨lSs, lSs1, lSs2⟩ := ltH Ss
    have cR6 := cellH R6
    obtain ⟨lR6, lR61, lR62⟩ := ltH R6
    have fzR6 := frozH R6
    have cWd := cellH Wd
    obtain ⟨lWd, lWd1, lWd2⟩ := ltH Wd
    rcases mul_two HB.out.2 g1 hr with ⟨g2, rfl, rfl, rfl⟩ | ⟨g2, rfl, rfl, rfl⟩
    all_goals clear hr
    · go_wp2_with fail
      refine (add_any s.num s.den (b.2 * (t - b.1)).num (b.2 * (t - b.1)).den E _ (bds HS.out).1 (bds HS.out).2.1 (bds HS.out).2.2.1 (bds HS.out).2.2.2 (bds g2).1 (bds g2).2.1 (bds g2).2.2.1 (bds g2).2.2.2 ((HE.out.below (by (repeat' (first | with_reducible exact Below.refl _ _ | with_reducible assumption | with_reducible refine Below.drew ?_ | with_reducible refine below_drewN ?_ _ | with_reducible refine Below.setCell ?_ ?_ _ | with_reducible refine Below.alloc ?_ ?_ _ | omega | (simp; done) | (simp; omega))))).sub (by decide))).mono ?_
      rintro e w3 ⟨⟨n', d', err, rfl, hr⟩, hb3⟩
      have hw3 : Below w.heap.size w w3 := stepH (by (repeat' (first | with_reducible exact Below.refl _ _ | with_reducible assumption | with_reducible refine Below.drew ?_ | with_reducible refine below_drewN ?_ _ | with_reducible refine Below.setCell ?_ ?_ _ | with_reducible refine Below.alloc ?_ ?_ _ | omega | (simp; done) | (simp; omega)))) hb3
      replace B := keepH hb3 (blk_old B.out)
      replace Tt := keepH hb3 (blk_old Tt.out)
      replace Ss := keepH hb3 (blk_old Ss.out)
      replace R6 := keepH hb3 (blk_old R6.out)
      replace Wd := keepH hb3 (blk_old Wd.out)
      have Pt := keepH hb3 (g := w2.heap.size) (blk_new rfl)
      have z3 := hw3.size
      clear hb3 hw2 z2
      clear cB lB lB1 lB2 cTt lTt lTt1 lTt2 cSs lSs lSs1 lSs2 cR6 lR6 lR61 lR62 fzR6 cWd lWd lWd1 lWd2
      have cB := cellH B
      obtain ⟨lB, lB1, lB2⟩ := ltH B
      have cTt := cellH Tt
      obtain ⟨lTt, lTt1, lTt2⟩ := ltH Tt
      have cSs := cellH Ss
      obtain ⟨lSs, lSs1, lSs2⟩ := ltH Ss
      have cR6 := cellH R6
      obtain ⟨lR6, lR61, lR62⟩ := ltH R6
      have fzR6 := frozH R6
      have cWd := cellH Wd
      obtain ⟨lWd, lWd1, lWd2⟩ := ltH Wd
      have cPt := cellH Pt
      obtain ⟨lPt, lPt1, lPt2⟩ := ltH Pt
      go_wp2_with fail
      refine bodyPost_ret (v := .tuple #[.agg #[.int .i64 n', .int .i64 d'], err]) (by simp [results, Tryd.results45, go_sem, cR6]) rfl ⟨⟨_, _, _, rfl, (by unfold bornR; rw [if_pos g1, if_pos g2]; rw [opI_good _ HS.out g2] at hr; exact hr)⟩, by (repeat' (first | with_reducible exact Below.refl _ _ | with_reducible assumption | with_reducible refine Below.drew ?_ | with_reducible refine below_drewN ?_ _ | with_reducible refine Below.setCell ?_ ?_ _ | with_reducible refine Below.alloc ?_ ?_ _ | omega | (simp; done) | (simp; omega)))⟩
    · go_wp2_with fail
      refine bodyPost_ret (v := .tuple #[.agg #[.int .i64 0, .int .i64 0], .iface 122 (.pointer (some (E 5)))]) (by simp [results, Tryd.results45, go_sem, cR6, lR6]) rfl ⟨⟨_, _, _, rfl, resF_fail (by unfold bornR; rw [if_pos g1, if_neg g2])⟩, by (repeat' (first | with_reducible exact Below.refl _ _ | with_reducible assumption | with_reducible refine Below.drew ?_ | with_reducible refine below_drewN ?_ _ | with_reducible refine Below.setCell ?_ ?_ _ | with_reducible refine Below.alloc ?_ ?_ _ | omega | (simp; done) | (simp; omega)))⟩
  · go_wp2_with fail
    refine bodyPost_ret (v := .tuple #[.agg #[.int .i64 0, .int .i64 0], .iface 122 (.pointer (some (E 5)))]) (by simp [results, Tryd.results45, go_sem, cR6, lR6]) rfl ⟨⟨_, _, _, rfl, resF_fail (by unfold bornR; rw [if_neg g1])⟩, by (repeat' (first | with_reducible exact Below.refl _ _ | with_reducible assumption | with_reducible refine Below.drew ?_ | with_reducible refine below_drewN ?_ _ | with_reducible refine Below.setCell ?_ ?_ _ | with_reducible refine Below.alloc ?_ ?_ _ | omega | (simp; done) | (simp; omega)))⟩

set_option maxRecDepth 100000 in
set_option maxHeartbeats 4000000 in
theorem behind_any (b : Rat × Rat) (y s : Rat) (E : Nat → Addr) (w : World) (hb : GoodB b) (hy : Good y) (hs : Good s) (hE : Env LC E w) :
    Calls Tryd.prog 44 #[.agg #[.int .i64 b.1.num, .int .i64 b.1.den, .int .i64 b.2.num, .int .i64 b.2.den], .agg #[.int .i64 y.num, .int .i64 y.den], .agg #[.int .i64 s.num, .int .i64 s.den]] w fun e w' =>
      (∃ n' d' err, e = .returned (.tuple #[.agg #[.int .i64 n', .int .i64 d'], err]) ∧ ResF E (behR b y s) n' d' err) ∧ Below w.heap.size w w' := by
  have HB := Lib.hid hb
  have HY := Lib.hid hy
  have HS := Lib.hid hs
  have HE := Lib.hid hE
  clear hb hy hs hE
  go_enter Tryd.func44, Tryd.ntmps44
  go_wp2_with fail
  refine (sub_any y.num y.den s.num s.den E _ (bds HY.out).1 (bds HY.out).2.1 (bds HY.out).2.2.1 (bds HY.out).2.2.2 (bds HS.out).1 (bds HS.out).2.1 (bds HS.out).2.2.1 (bds HS.out).2.2.2 ((HE.out.below (by (repeat' (first | with_reducible exact Below.refl _ _ | with_reducible assumption | with_reducible refine Below.drew ?_ | with_reducible refine below_drewN ?_ _ | with_reducible refine Below.setCell ?_ ?_ _ | with_reducible refine Below.alloc ?_ ?_ _ | omega | (simp; done) | (simp; omega))))).sub (by decide))).mono ?_
  rintro e w1 ⟨⟨n', d', err, rfl, hr⟩, hb1⟩
  have hw1 : Below w.heap.size w w1 := stepH (by (repeat' (first | with_reducible exact Below.refl _ _ | with_reducible assumption | with_reducible refine Below.drew ?_ | with_reducible refine below_drewN ?_ _ | with_reducible refine Below.setCell ?_ ?_ _ | with_reducible refine Below.alloc ?_ ?_ _ | omega | (simp; done) | (simp; omega)))) hb1
  have B := keepH hb1 (g := w.heap.size) (blk_old (blk_old (blk_old (blk_new rfl))))
  have Yy := keepH hb1 (g := w.heap.size + 1) (blk_old (blk_old (blk_new (by simp))))
  have Ss := keepH hb1 (g := w.heap.size + 1 + 1) (blk_old (blk_new (by simp)))
  have R6 := keepH hb1 (g := w.heap.size + 1 + 1 + 1) (blk_new (by simp))
  have z1 := hw1.size
  clear hb1
  have cB := cellH B
  obtain ⟨lB, lB1, lB2⟩ := ltH B
  have cYy := cellH Yy
  obtain ⟨lYy, lYy1, lYy2⟩ := ltH Yy
  have cSs := cellH Ss
  obtain ⟨lSs, lSs1, lSs2⟩ := ltH Ss
  have cR6 := cellH R6
  obtain ⟨lR6, lR61, lR62⟩ := ltH R6
  have fzR6 := frozH R6
  rcases sub_two HY.out HS.out hr with ⟨g1, rfl, rfl, rfl⟩ | ⟨g1, rfl, rfl, rfl⟩
  all_goals clear hr
  · go_wp2_with fail
    refine (div_any (y - s).num (y - s).den b.2.num b.2.den E _ (bds g1).1 (bds g1).2.1 (bds g1).2.2.1 (bds g1).2.2.2 (bds HB.out.2).1 (bds HB.out.2).2.1 (bds HB.out.2).2.2.1 (bds HB.out.2).2.2.2 ((HE.out.below (by (repeat' (first | with_reducible exact Below.refl _ _ | with_reducible assumption | with_reducible refine Below.drew ?_ | with_reducible refine below_drewN ?_ _ | with_reducible refine Below.setCell ?_ ?_ _ | with_reducible refine Below.alloc ?_ ?_ _ | omega | (simp; done) | (simp; omega))))).sub (by decide))).mono ?_
    rintro e w2 ⟨⟨n', d', err, rfl, hr⟩, hb2⟩
    have hw2 : Below w.heap.size w w2 := stepH (by (repeat' (first | with_reducible exact Below.refl _ _ | with_reducible assumption | with_reducible refine Below.drew ?_ | with_reducible refine below_drewN ?_ _ | with_reducible refine Below.setCell ?_ ?_ _ | with_reducible refine Below.alloc ?_ ?_ _ | omega | (simp; done) | (simp; omega)))) hb2
    replace B := keepH hb2 (blk_old B.out)
    replace Yy := keepH hb2 (blk_old Yy.out)
    replace Ss := keepH hb2 (blk_old Ss.out)
    replace R6 := keepH hb2 (blk_old R6.out)
    have Le := keepH hb2 (g := w1.heap.size) (blk_new rfl)
    have z2 := hw2.size
    clear hb2 hw1 z1
    clear cB lB lB1 lB2 cYy lYy lYy1 lYy2 cSs lSs lSs1 lSs2 cR6 lR6 lR61 lR62 fzR6
    have cB := cellH B
    obtain ⟨lB, lB1, lB2⟩ := ltH B
    have cYy := cellH Yy
    obtain ⟨lYy, lYy1, lYy2⟩ := ltH Yy
    have cSs := cellH Ss
    obtain ⟨lSs, lSs1, lSs2⟩ := ltH Ss
    have cR6 := cellH R6
    obtain ⟨lR6, lR61, lR62⟩ := ltH R6
    have fzR6 := frozH R6
    have cLe := cellH Le
    obtain ⟨lLe, lLe1, lLe2⟩ := ltH Le
    rw [opI_good _ g1 HB.out.2] at hr
    rcases resF_one hr with ⟨v, hv, rfl, rfl, rfl⟩ | ⟨g, hv, rfl, rfl, rfl⟩
    all_goals have HV := Lib.hid hv
    all_goals clear hr hv
    · have g2 := divR_good HV.out
      go_wp2_with fail
      refine (add_any b.1.num b.1.den v.num v.den E _ (bds HB.out.1).1 (bds HB.out.1).2.1 (bds HB.out.1).2.2.1 (bds HB.out.1).2.2.2 (bds g2).1 (bds g2).2.1 (bds g2).2.2.1 (bds g2).2.2.2 ((HE.out.below (by (repeat' (first | with_reducible exact Below.refl _ _ | with_reducible assumption | with_reducible refine Below.drew ?_ | with_reducible refine below_drewN ?_ _ | with_reducible refine Below.setCell ?_ ?_ _ | with_reducible refine Below.alloc ?_ ?_ _ | omega | (simp; done) | (simp; omega))))).sub (by decide))).mono ?_
      rintro e w3 ⟨⟨n', d', err, rfl, hr⟩, hb3⟩
      have hw3 : Below w.heap.size w w3 := stepH (by (repeat' (first | with_reducible exact Below.refl _ _ | with_reducible assumption | with_reducible refine Below.drew ?_ | with_reducible refine below_drewN ?_ _ | with_reducible refine Below.setCell ?_ ?_ _ | with_reducible refine Below.alloc ?_ ?_ _ | omega | (simp; done) | (simp; omega)))) hb3
      replace B := keepH hb3 (blk_old B.out)
      replace Yy := keepH hb3 (blk_old Yy.out)
      replace Ss := keepH hb3 (blk_old Ss.out)
      replace R6 := keepH hb3 (blk_old R6.out)
      replace Le := keepH hb3 (blk_old Le.out)
      have Wd := keepH hb3 (g := w2.heap.size) (blk_new rfl)
      have z3 := hw3.size
      clear hb3 hw2 z2
      clear cB lB lB1 lB2 cYy lYy lYy1 lYy2 cSs lSs lSs1 lSs2 cR6 lR6 lR61 lR62 fzR6 cLe lLe lLe1 lLe2
      have cB := cellH B
      obtain ⟨lB, lB1, lB2⟩ := ltH B
      have cYy := cellH Yy
      obtain ⟨lYy, lYy1, lYy2⟩ := ltH Yy
      have cSs := cellH Ss
      obtain ⟨lSs, lSs1, lSs2⟩ := ltH Ss
      have cR6 := cellH R6
      obtain ⟨lR6, lR61, lR62⟩ := ltH R6
      have fzR6 := frozH R6
      have cLe := cellH Le
      obtain ⟨lLe, lLe1, lLe2⟩ := ltH Le
      have cWd := cellH Wd
      obtain ⟨lWd, lWd1, lWd2⟩ := ltH Wd
      go_wp2_with fail
      refine bodyPost_ret (v := .tuple #[.agg #[.int .i64 n', .int .i64 d'], err]) (by simp [results, Tryd.results44, go_sem, cR6]) rfl ⟨⟨_, _, _, rfl, (by unfold behR; rw [if_pos g1, HV.out]; rw [opI_good _ HB.out.1 g2] at hr; exact hr)⟩, by (repeat' (first | with_reducible exact Below.refl _ _ | with_reducible assumption | with_reducible refine Below.drew ?_ | with_reducible refine below_drewN ?_ _ | with_reducible refine Below.setCell ?_ ?_ _ | with_reducible refine Below.alloc ?_ ?_ _ | omega | (simp; done) | (simp; omega)))⟩
    · have hen := fun w => eql_nil (E g) w
      go_wp2_with fail
      refine bodyPost_ret (v := .tuple #[.agg #[.int .i64 0, .int .i64 0], .iface 122 (.pointer (some (E g)))]) (by simp [results, Tryd.results44, go_sem, cR6, lR6]) rfl ⟨⟨_, _, _, rfl, resF_fail (by unfold behR; rw [if_pos g1, HV.out])⟩, by (repeat' (first | with_reducible exact Below.refl _ _ | with_reducible assumption | with_reducible refine Below.drew ?_ | with_reducible refine below_drewN ?_ _ | with_reducible refine Below.setCell ?_ ?_ _ | with_reducible refine Below.alloc ?_ ?_ _ | omega | (simp; done) | (simp; omega)))⟩
  · have hen := fun w => eql_nil (E 5) w
    go_wp2_with fail
    refine bodyPost_ret (v := .tuple #[.agg #[.int .i64 0, .int .i64 0], .iface 122 (.pointer (some (E 5)))]) (by simp [results, Tryd.results44, go_sem, cR6, lR6]) rfl ⟨⟨_, _, _, rfl, resF_fail (by unfold behR; rw [if_neg g1])⟩, by (repeat' (first | with_reducible exact Below.refl _ _ | with_reducible assumption | with_reducible refine Below.drew ?_ | with_reducible refine below_drewN ?_ _ | with_reducible refine Below.setCell ?_ ?_ _ | with_reducible refine Below.alloc ?_ ?_ _ | omega | (simp; done) | (simp; omega)))⟩

end Go.Proofs.YtmankldedhgdiaaDoor
