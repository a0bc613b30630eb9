/- Find: walk. -/
import Derived.Test.YtmankldedhgdiaaDoorScaleF
import Derived.Deep.DeepCutAuto
import Derived.Deep.RegionHeld3
import Derived.Deep.RegionWith
namespace Go.Proofs.YtmankldedhgdiaaDoor
open Go.RowKit

/-- Find, from a sum on -/
def findL (y : Rat) : Rat → List (Rat × Rat) → Except Nat Rat
  | _, [] => .error 0
  | s, [b] => if 0 < b.2.num then behR b y s else .error 0
  | s, b :: c :: r => match bornR b c.1 s with
    | .error g => .error g
    | .ok nx => if y ≤ nx then behR b y s else findL y nx (c :: r)

def upR (gs : List (Rat × Rat)) : Bool := gs.all fun b => decide (0 ≤ b.2.num)

def findG (gs : List (Rat × Rat)) (y : Rat) : Except Nat Rat :=
  if upR gs = false then .error 1
  else if y.num ≤ 0 then (match gs with | [] => .error 0 | b :: _ => .ok b.1)
  else findL y 0 gs

/-- what Find answers -/
def findI (s : List BI) (n d : Int) : Except Nat Rat :=
  match askE s n d with
  | some g => .error g
  | none => findG (s.map fracB) (Rat.divInt n d)

theorem findI_err {s : List BI} {n d : Int} {g : Nat} (h : askE s n d = some g) : findI s n d = .error g := by unfold findI; rw [h]
theorem findI_good {gs : List (Rat × Rat)} {x : Rat} (h : askE (gs.map bR) x.num x.den = none) : findI (gs.map bR) x.num x.den = findG gs x := by unfold findI; rw [h, fracB_bR, Rat.num_divInt_den]
theorem upR_take (l : List (Rat × Rat)) {k : Nat} {b : Rat × Rat} (h : l[k]? = some b) : upR (l.take (k + 1)) = (upR (l.take k) && decide (0 ≤ b.2.num)) := by rw [take_snoc h]; unfold upR; rw [List.all_append]; simp
theorem upR_no {l : List (Rat × Rat)} {k : Nat} {b : Rat × Rat} (h : l[k]? = some b) (hb : b.2.num < 0) : upR l = false := by
  unfold upR
  rw [List.all_eq_false]
  exact ⟨b, List.mem_of_getElem? h, by show ¬ (decide _ = true); rw [decide_eq_true_eq]; omega⟩
theorem findG_no {gs : List (Rat × Rat)} {y : Rat} (h : upR gs = false) : findG gs y = .error 1 := by unfold findG; rw [if_pos h]
theorem findG_low {gs : List (Rat × Rat)} {y : Rat} {b : Rat × Rat} (h : upR gs = true) (hy : y.num ≤ 0) (hb : gs[0]? = some b) : findG gs y = .ok b.1 := by
  unfold findG
  rw [if_neg (by rw [h]; decide), if_pos hy]
  cases gs with
  | nil => cases hb
  | cons c r => simp at hb; subst hb; rfl
theorem findG_high {gs : List (Rat × Rat)} {y : Rat} (h : upR gs = true) (hy : ¬ y.num ≤ 0) : findG gs y = findL y 0 gs := by unfold findG; rw [if_neg (by rw [h]; decide), if_neg hy]
theorem findL_last {y s : Rat} {gs : List (Rat × Rat)} {k : Nat} {b : Rat × Rat} (h : gs[k]? = some b) (hk : k + 1 = gs.length) : findL y s (gs.drop k) = if 0 < b.2.num then behR b y s else .error 0 := by
  rw [drop_cons h, hk, List.drop_length]; rfl
theorem findL_more {y s : Rat} {gs : List (Rat × Rat)} {k : Nat} {b c : Rat × Rat} (h : gs[k]? = some b) (h2 : gs[k + 1]? = some c) : findL y s (gs.drop k) = match bornR b c.1 s with
    | .error g => .error g
    | .ok nx => if y ≤ nx then behR b y s else findL y nx (gs.drop (k + 1)) := by
  rw [drop_cons h, drop_cons h2]; rfl
theorem bornR_good {b : Rat × Rat} {t s v : Rat} (h : bornR b t s = .ok v) : Good v := by
  unfold bornR at h
  split at h
  · split at h
    · exact addR_good h
    · cases h
  · cases h

theorem cells4n {w : World} {B g off : Nat} {s : List BI} {k : Nat} {b : Rat × Rat} (h : RowAt encR 4 w B (some ⟨g, off, none⟩) s) (hk : s[k]? = some (bR b)) : w.cell? ⟨g, off + k * 4, none⟩ = some (.int .i64 b.1.num) := by
  obtain ⟨g', off', hA, _, k0, _⟩ := cells4 h hk
  injection hA with hA
  injection hA with e1 e2
  subst e1 e2
  exact k0
theorem cells4d {w : World} {B g off : Nat} {s : List BI} {k : Nat} {b : Rat × Rat} (h : RowAt encR 4 w B (some ⟨g, off, none⟩) s) (hk : s[k]? = some (bR b)) : w.cell? ⟨g, off + k * 4 + 1, none⟩ = some (.int .i64 b.1.den) := by
  obtain ⟨g', off', hA, _, _, k1, _⟩ := cells4 h hk
  injection hA with hA
  injection hA with e1 e2
  subst e1 e2
  exact k1

set_option maxRecDepth 100000 in
set_option maxHeartbeats 16000000 in
theorem find15_any (s : List BI) (A : Option Addr) (c : Nat) (n d : Int) (E : Nat → Addr) (w : World) (hl : RowAt encR 4 w w.heap.size A s) (hm : s.length ≤ 9223372036854775807) (hI : ∀ b ∈ s, In4 b) (Bn : -9223372036854775808 ≤ n ∧ n ≤ 9223372036854775807) (Bd : -9223372036854775808 ≤ d ∧ d ≤ 9223372036854775807) (hE : Env LC E w) :
    Calls Tryd.prog 22 #[.slice A s.length c, .agg #[.int .i64 n, .int .i64 d]] w fun e w' =>
      (∃ n' d' err, e = .returned (.tuple #[.agg #[.int .i64 n', .int .i64 d'], err]) ∧ ResF E (findI s n d) n' d' err) ∧ Below w.heap.size w w' := by
  have HASK := Lib.hid (fun w' (h : Below w.heap.size w w') => ask15_any s A c n d E w' ((hl.below h (Nat.le_refl _)).more h.size) hm hI Bn Bd (hE.below h))
  cases hs : askE s n d
  · obtain ⟨hs1, hv⟩ := askE_none hs
    obtain ⟨gs, rfl, hgood, hlen, hpos, _⟩ := scaleE_none hs1
    obtain ⟨x, hx, rfl, rfl⟩ := good_of_validB hv
    have HATI := Lib.hid (findI_good hs)
    rw [List.length_map] at *
    have HS := Lib.hid hs
    have HE := Lib.hid hE
    have HG := Lib.hid hgood
    have HL := Lib.hid hl
    have HX := Lib.hid hx
    clear hs hs1 hv hI hgood hE hl hx hm Bn Bd
    go_enter Tryd.func22, Tryd.ntmps22
    go_wp2_with fail
    refine (HASK.out _ (by (repeat' (first | with_reducible exact Below.refl _ _ | with_reducible assumption | with_reducible refine Below.drew ?_ | with_reducible refine below_drewN ?_ _ | with_reducible refine Below.setCell ?_ ?_ _ | with_reducible refine Below.alloc ?_ ?_ _ | omega | (simp; done) | (simp; omega))))).mono ?_
    rintro e w1 ⟨rfl, hb1⟩
    have hw1 : Below w.heap.size w w1 := stepH (by (repeat' (first | with_reducible exact Below.refl _ _ | with_reducible assumption | with_reducible refine Below.drew ?_ | with_reducible refine below_drewN ?_ _ | with_reducible refine Below.setCell ?_ ?_ _ | with_reducible refine Below.alloc ?_ ?_ _ | omega | (simp; done) | (simp; omega)))) hb1
    rw [HS.out]
    unfold errV
    have X := keepH hb1 (g := w.heap.size) (blk_old (blk_new rfl))
    have R4 := keepH hb1 (g := w.heap.size + 1) (blk_new (by simp))
    have z1 := hw1.size
    clear hb1
    have cX := cellH X
    obtain ⟨lX, lX1, lX2⟩ := ltH X
    have cR4 := cellH R4
    obtain ⟨lR4, lR41, lR42⟩ := ltH R4
    go_wp2_with fail
    clear cX lX lX1 lX2 cR4 lR4 lR41 lR42
    go_loopw [23] (fun i wr => ∃ k : Nat, k ≤ gs.length ∧ i = .int .i64 k ∧ Hid (upR (gs.take k) = true) ∧ Hid (wr.heap[w.heap.size]? = some (.cells #[.int .i64 x.num, .int .i64 x.den] 24 (0, 0))) ∧ Hid (wr.heap[w.heap.size + 1]? = some (.cells #[.int .i64 0, .int .i64 0] 24 (0, 0))) ∧ Below w.heap.size w wr) (fun i _ => gs.length - (intOf i).toNat)
    case atStart => exact ⟨0, Nat.zero_le _, rfl, rfl, X, R4, hw1⟩
    case round =>
      clear X R4
      obtain ⟨k, hk, rfl, hup, X, R4, hw0⟩ := hrel
      have z0 := hw0.size
      by_cases hlt : k < gs.length
      · obtain ⟨b, hb⟩ : ∃ b, gs[k]? = some b := ⟨gs[k], List.getElem?_eq_getElem hlt⟩
        have G0 := Lib.hid (HG.out b (List.mem_of_getElem? hb))
        obtain ⟨g, off, hA, hgB, k0, k1, k2, k3⟩ := cells4 (HL.out.below hw0 (Nat.le_refl _)) (show (gs.map bR)[k]? = some (bR b) by rw [List.getElem?_map, hb]; rfl)
        subst hA
        replace k0 : wr.cell? ⟨g, off + k * 4, none⟩ = some (.int .i64 b.1.num) := k0
        replace k1 : wr.cell? ⟨g, off + k * 4 + 1, none⟩ = some (.int .i64 b.1.den) := k1
        replace k2 : wr.cell? ⟨g, off + k * 4 + 2, none⟩ = some (.int .i64 b.2.num) := k2
        replace k3 : wr.cell? ⟨g, off + k * 4 + 3, none⟩ = some (.int .i64 b.2.den) := k3
        have HTK := Lib.hid (upR_take gs hb)
        have HB := Lib.hid hb
        clear hb
        have cX := cellH X
        obtain ⟨lX, lX1, lX2⟩ := ltH X
        have cR4 := cellH R4
        obtain ⟨lR4, lR41, lR42⟩ := ltH R4
        have fzR4 := frozH R4
        by_cases hn : b.2.num < 0
        · have HF := Lib.hid (HATI.out.trans (findG_no (upR_no HB.out hn)))
          go_upto_region 8 with fail
          have hw11 : Below w.heap.size w (wr.alloc (.cells #[.int .i64 b.1.num, .int .i64 b.1.den, .int .i64 b.2.num, .int .i64 b.2.den] 31)) := by (repeat' (first | with_reducible exact Below.refl _ _ | with_reducible assumption | with_reducible refine Below.drew ?_ | with_reducible refine below_drewN ?_ _ | with_reducible refine Below.setCell ?_ ?_ _ | with_reducible refine Below.alloc ?_ ?_ _ | omega | (simp; done) | (simp; omega)))
          replace X : Hid ((wr.alloc (.cells #[.int .i64 b.1.num, .int .i64 b.1.den, .int .i64 b.2.num, .int .i64 b.2.den] 31)).heap[w.heap.size]? = some (.cells #[.int .i64 x.num, .int .i64 x.den] 24 (0, 0))) := (blk_old X.out)
          replace R4 : Hid ((wr.alloc (.cells #[.int .i64 b.1.num, .int .i64 b.1.den, .int .i64 b.2.num, .int .i64 b.2.den] 31)).heap[w.heap.size + 1]? = some (.cells #[.int .i64 0, .int .i64 0] 24 (0, 0))) := (blk_old R4.out)
          have Bb : Hid ((wr.alloc (.cells #[.int .i64 b.1.num, .int .i64 b.1.den, .int .i64 b.2.num, .int .i64 b.2.den] 31)).heap[wr.heap.size]? = some (.cells #[.int .i64 b.1.num, .int .i64 b.1.den, .int .i64 b.2.num, .int .i64 b.2.den] 31 (0, 0))) := (blk_new rfl)
          clear cX lX lX1 lX2 cR4 lR4 lR41 lR42 fzR4
          generalize (wr.alloc (.cells #[.int .i64 b.1.num, .int .i64 b.1.den, .int .i64 b.2.num, .int .i64 b.2.den] 31)) = w11 at *
          have z11 := hw11.size
          have cX := cellH X
          obtain ⟨lX, lX1, lX2⟩ := ltH X
          have cR4 := cellH R4
          obtain ⟨lR4, lR41, lR42⟩ := ltH R4
          have fzR4 := frozH R4
          have cBb := cellH Bb
          obtain ⟨lBb, lBb1, lBb2⟩ := ltH Bb
          clear cX lX lX1 lX2 cR4 lR4 lR41 lR42 fzR4 cBb lBb lBb1 lBb2
          have ge := (HE.out.below hw11).cell 1 (by decide)
          have cX := cellH X
          obtain ⟨lX, lX1, lX2⟩ := ltH X
          have cR4 := cellH R4
          obtain ⟨lR4, lR41, lR42⟩ := ltH R4
          have fzR4 := frozH R4
          have cBb := cellH Bb
          obtain ⟨lBb, lBb1, lBb2⟩ := ltH Bb
          have hnq : (w.heap.size ≠ 0 ∧ w.heap.size ≠ 1) := by have := (HE.out.sent 1 (by decide)).2.1; omega
          go_region
          all_goals go_wp2_with fail
          all_goals refine bodyPost_ret (v := .tuple #[.agg #[.int .i64 0, .int .i64 0], .iface 122 (.pointer (some (E 1)))]) (by simp [results, Tryd.results22, go_sem, cR4]) rfl ⟨⟨_, _, _, rfl, resF_fail HF.out⟩, by (repeat' (first | with_reducible exact Below.refl _ _ | with_reducible assumption | with_reducible refine Below.drew ?_ | with_reducible refine below_drewN ?_ _ | with_reducible refine Below.setCell ?_ ?_ _ | with_reducible refine Below.alloc ?_ ?_ _ | omega | (simp; done) | (simp; omega)))⟩
        · have hn0 : 0 ≤ b.2.num := by omega
          clear hn
          go_wp2_with fail
          have hw12 : Below w.heap.size w (wr.alloc (.cells #[.int .i64 b.1.num, .int .i64 b.1.den, .int .i64 b.2.num, .int .i64 b.2.den] 31)) := by (repeat' (first | with_reducible exact Below.refl _ _ | with_reducible assumption | with_reducible refine Below.drew ?_ | with_reducible refine below_drewN ?_ _ | with_reducible refine Below.setCell ?_ ?_ _ | with_reducible refine Below.alloc ?_ ?_ _ | omega | (simp; done) | (simp; omega)))
          replace X : Hid ((wr.alloc (.cells #[.int .i64 b.1.num, .int .i64 b.1.den, .int .i64 b.2.num, .int .i64 b.2.den] 31)).heap[w.heap.size]? = some (.cells #[.int .i64 x.num, .int .i64 x.den] 24 (0, 0))) := (blk_old X.out)
          replace R4 : Hid ((wr.alloc (.cells #[.int .i64 b.1.num, .int .i64 b.1.den, .int .i64 b.2.num, .int .i64 b.2.den] 31)).heap[w.heap.size + 1]? = some (.cells #[.int .i64 0, .int .i64 0] 24 (0, 0))) := (blk_old R4.out)
          have Bb : Hid ((wr.alloc (.cells #[.int .i64 b.1.num, .int .i64 b.1.den, .int .i64 b.2.num, .int .i64 b.2.den] 31)).heap[wr.heap.size]? = some (.cells #[.int .i64 b.1.num, .int .i64 b.1.den, .int .i64 b.2.num, .int .i64 b.2.den] 31 (0, 0))) := (blk_new rfl)
          clear cX lX lX1 lX2 cR4 lR4 lR41 lR42 fzR4
          generalize (wr.alloc (.cells #[.int .i64 b.1.num, .int .i64 b.1.den, .int .i64 b.2.num, .int .i64 b.2.den] 31)) = w12 at *
          have z12 := hw12.size
          have cX := cellH X
          obtain ⟨lX, lX1, lX2⟩ := ltH X
          have cR4 := cellH R4
          obtain ⟨lR4, lR41, lR42⟩ := ltH R4
          have fzR4 := frozH R4
          have cBb := cellH Bb
          obtain ⟨lBb, lBb1, lBb2⟩ := ltH Bb
          go_roundw
          case rel => exact ⟨k + 1, by omega, by go_num, (by show _ = _; rw [HTK.out, hup.out, decide_eq_true hn0]; rfl), X, R4, hw12⟩
          case measure => simp [intOf]; omega
      · obtain rfl : k = gs.length := by omega
        have hup2 : Hid (upR gs = true) := by have h := hup.out; rw [List.take_length] at h; exact h
        clear hup hlt
        obtain ⟨wo, rfl⟩ : ∃ wo : World, wo = wr := ⟨_, rfl⟩
        by_cases hy : x.num ≤ 0
        · obtain ⟨b, hb⟩ : ∃ b, gs[0]? = some b := ⟨gs[0], List.getElem?_eq_getElem hpos⟩
          obtain ⟨g, off, hA, hgB, k0, k1, k2, k3⟩ := cells4 (HL.out.below hw0 (Nat.le_refl _)) (show (gs.map bR)[0]? = some (bR b) by rw [List.getElem?_map, hb]; rfl)
          subst hA
          have j0 : wo.cell? ⟨g, off, none⟩ = some (.int .i64 b.1.num) := by have h : wo.cell? ⟨g, off + 0 * 4, none⟩ = some (.int .i64 b.1.num) := k0; simpa using h
          have j1 : wo.cell? ⟨g, off + 1, none⟩ = some (.int .i64 b.1.den) := by have h : wo.cell? ⟨g, off + 0 * 4 + 1, none⟩ = some (.int .i64 b.1.den) := k1; simpa using h
          clear k0 k1 k2 k3
          have HF := Lib.hid (HATI.out.trans (findG_low hup2.out hy hb))
          clear hb
          have hp0 : (0 : Int) < (gs.length : Int) := by omega
          have cX := cellH X
          obtain ⟨lX, lX1, lX2⟩ := ltH X
          have cR4 := cellH R4
          obtain ⟨lR4, lR41, lR42⟩ := ltH R4
          have fzR4 := frozH R4
          go_wp2_with fail
          refine bodyPost_ret (v := .tuple #[.agg #[.int .i64 b.1.num, .int .i64 b.1.den], .nilIface]) (by simp [results, Tryd.results22, go_sem, cR4]) rfl ⟨⟨_, _, _, rfl, resF_of HF.out⟩, by (repeat' (first | with_reducible exact Below.refl _ _ | with_reducible assumption | with_reducible refine Below.drew ?_ | with_reducible refine below_drewN ?_ _ | with_reducible refine Below.setCell ?_ ?_ _ | with_reducible refine Below.alloc ?_ ?_ _ | omega | (simp; done) | (simp; omega)))⟩
        · have HF := Lib.hid (HATI.out.trans (findG_high hup2.out hy))
          have hy2 : 0 < x.num := by omega
          clear hy
          have cX := cellH X
          obtain ⟨lX, lX1, lX2⟩ := ltH X
          have cR4 := cellH R4
          obtain ⟨lR4, lR41, lR42⟩ := ltH R4
          have fzR4 := frozH R4
          go_wp2_with fail
          refine (zero15_any _).mono ?_
          rintro e w13 ⟨rfl, hb13⟩
          have hw13 : Below w.heap.size w w13 := stepH (by (repeat' (first | with_reducible exact Below.refl _ _ | with_reducible assumption | with_reducible refine Below.drew ?_ | with_reducible refine below_drewN ?_ _ | with_reducible refine Below.setCell ?_ ?_ _ | with_reducible refine Below.alloc ?_ ?_ _ | omega | (simp; done) | (simp; omega)))) hb13
          replace X := keepH hb13 X.out
          replace R4 := keepH hb13 R4.out
          have z13 := hw13.size
          clear hb13 hw0 z0
          clear cX lX lX1 lX2 cR4 lR4 lR41 lR42 fzR4
          have cX := cellH X
          obtain ⟨lX, lX1, lX2⟩ := ltH X
          have cR4 := cellH R4
          obtain ⟨lR4, lR41, lR42⟩ := ltH R4
          have fzR4 := frozH R4
          have hz2 : w.heap.size + 1 < w13.heap.size := lt_of_H R4
          obtain ⟨m, hm⟩ : ∃ m, m = w13.heap.size := ⟨_, rfl⟩
          go_wp2_with fail
          have hw14 : Below w.heap.size w (w13.alloc (.cells #[.int .i64 0, .int .i64 1] 24)) := by (repeat' (first | with_reducible exact Below.refl _ _ | with_reducible assumption | with_reducible refine Below.drew ?_ | with_reducible refine below_drewN ?_ _ | with_reducible refine Below.setCell ?_ ?_ _ | with_reducible refine Below.alloc ?_ ?_ _ | omega | (simp; done) | (simp; omega)))
          replace X : Hid ((w13.alloc (.cells #[.int .i64 0, .int .i64 1] 24)).heap[w.heap.size]? = some (.cells #[.int .i64 x.num, .int .i64 x.den] 24 (0, 0))) := (blk_old X.out)
          replace R4 : Hid ((w13.alloc (.cells #[.int .i64 0, .int .i64 1] 24)).heap[w.heap.size + 1]? = some (.cells #[.int .i64 0, .int .i64 0] 24 (0, 0))) := (blk_old R4.out)
          have Sm : Hid ((w13.alloc (.cells #[.int .i64 0, .int .i64 1] 24)).heap[w13.heap.size]? = some (.cells #[.int .i64 0, .int .i64 1] 24 (0, 0))) := (blk_new rfl)
          clear cX lX lX1 lX2 cR4 lR4 lR41 lR42 fzR4
          generalize (w13.alloc (.cells #[.int .i64 0, .int .i64 1] 24)) = w14 at *
          have z14 := hw14.size
          have cX := cellH X
          obtain ⟨lX, lX1, lX2⟩ := ltH X
          have cR4 := cellH R4
          obtain ⟨lR4, lR41, lR42⟩ := ltH R4
          have fzR4 := frozH R4
          have cSm := cellH Sm
          obtain ⟨lSm, lSm1, lSm2⟩ := ltH Sm
          clear cX lX lX1 lX2 cR4 lR4 lR41 lR42 fzR4 cSm lSm lSm1 lSm2
          go_loopw [44] (fun i wr => ∃ (k : Nat) (s : Rat), k < gs.length ∧ i = .int .i64 k ∧ Hid (findL x 0 gs = findL x s (gs.drop k)) ∧ Good s ∧ Hid (wr.heap[w13.heap.size]? = some (.cells #[.int .i64 s.num, .int .i64 s.den] 24 (0, 0))) ∧ Hid (wr.heap[w.heap.size]? = some (.cells #[.int .i64 x.num, .int .i64 x.den] 24 (0, 0))) ∧ Hid (wr.heap[w.heap.size + 1]? = some (.cells #[.int .i64 0, .int .i64 0] 24 (0, 0))) ∧ Below w.heap.size w wr) (fun i _ => gs.length - (intOf i).toNat)
          case atStart => exact ⟨0, 0, hpos, rfl, rfl, good_zero, Sm, X, R4, hw14⟩
          case round =>
            clear Sm X R4 hm
            obtain ⟨k, s, hlt, rfl, hfi, hgs, Sm, X, R4, hw0⟩ := hrel
            have z0 := hw0.size
            have HSM := Lib.hid hgs
            clear hgs
            have q1 : w13.heap.size ≠ w.heap.size := by omega
            have q2 : w13.heap.size ≠ w.heap.size + 1 := by omega
            have q3 : w.heap.size ≠ w.heap.size + 1 := by omega
            obtain ⟨b, hb⟩ : ∃ b, gs[k]? = some b := ⟨gs[k], List.getElem?_eq_getElem hlt⟩
            have G0 := Lib.hid (HG.out b (List.mem_of_getElem? hb))
            obtain ⟨g, off, hA, hgB, k0, k1, k2, k3⟩ := cells4 (HL.out.below hw0 (Nat.le_refl _)) (show (gs.map bR)[k]? = some (bR b) by rw [List.getElem?_map, hb]; rfl)
            subst hA
            replace k0 : wr.cell? ⟨g, off + k * 4, none⟩ = some (.int .i64 b.1.num) := k0
            replace k1 : wr.cell? ⟨g, off + k * 4 + 1, none⟩ = some (.int .i64 b.1.den) := k1
            replace k2 : wr.cell? ⟨g, off + k * 4 + 2, none⟩ = some (.int .i64 b.2.num) := k2
            replace k3 : wr.cell? ⟨g, off + k * 4 + 3, none⟩ = some (.int .i64 b.2.den) := k3
            have HB := Lib.hid hb
            clear hb
            have cSm := cellH Sm
            obtain ⟨lSm, lSm1, lSm2⟩ := ltH Sm
            have fzSm := frozH Sm
            have cX := cellH X
            obtain ⟨lX, lX1, lX2⟩ := ltH X
            have cR4 := cellH R4
            obtain ⟨lR4, lR41, lR42⟩ := ltH R4
            have fzR4 := frozH R4
            by_cases hl2 : k + 1 < gs.length
            · obtain ⟨c2, hc2⟩ : ∃ c, gs[k + 1]? = some c := ⟨gs[k + 1], List.getElem?_eq_getElem hl2⟩
              have GC := Lib.hid (HG.out c2 (List.mem_of_getElem? hc2)).1
              have HE2 := Lib.hid (show (gs.map bR)[k + 1]? = some (bR c2) by rw [List.getElem?_map, hc2]; rfl)
              have HMO := Lib.hid (findL_more (y := x) (s := s) HB.out hc2)
              clear hc2
              go_upto_region 19 with fail
              have hw31 : Below w.heap.size w (wr.alloc (.cells #[.int .i64 b.1.num, .int .i64 b.1.den, .int .i64 b.2.num, .int .i64 b.2.den] 31)) := by (repeat' (first | with_reducible exact Below.refl _ _ | with_reducible assumption | with_reducible refine Below.drew ?_ | with_reducible refine below_drewN ?_ _ | with_reducible refine Below.setCell ?_ ?_ _ | with_reducible refine Below.alloc ?_ ?_ _ | omega | (simp; done) | (simp; omega)))
              replace Sm : Hid ((wr.alloc (.cells #[.int .i64 b.1.num, .int .i64 b.1.den, .int .i64 b.2.num, .int .i64 b.2.den] 31)).heap[w13.heap.size]? = some (.cells #[.int .i64 s.num, .int .i64 s.den] 24 (0, 0))) := (blk_old Sm.out)
              replace X : Hid ((wr.alloc (.cells #[.int .i64 b.1.num, .int .i64 b.1.den, .int .i64 b.2.num, .int .i64 b.2.den] 31)).heap[w.heap.size]? = some (.cells #[.int .i64 x.num, .int .i64 x.den] 24 (0, 0))) := (blk_old X.out)
              replace R4 : Hid ((wr.alloc (.cells #[.int .i64 b.1.num, .int .i64 b.1.den, .int .i64 b.2.num, .int .i64 b.2.den] 31)).heap[w.heap.size + 1]? = some (.cells #[.int .i64 0, .int .i64 0] 24 (0, 0))) := (blk_old R4.out)
              have B : Hid ((wr.alloc (.cells #[.int .i64 b.1.num, .int .i64 b.1.den, .int .i64 b.2.num, .int .i64 b.2.den] 31)).heap[wr.heap.size]? = some (.cells #[.int .i64 b.1.num, .int .i64 b.1.den, .int .i64 b.2.num, .int .i64 b.2.den] 31 (0, 0))) := (blk_new rfl)
              clear cSm lSm lSm1 lSm2 fzSm cX lX lX1 lX2 cR4 lR4 lR41 lR42 fzR4
              generalize (wr.alloc (.cells #[.int .i64 b.1.num, .int .i64 b.1.den, .int .i64 b.2.num, .int .i64 b.2.den] 31)) = w31 at *
              have z31 := hw31.size
              have cSm := cellH Sm
              obtain ⟨lSm, lSm1, lSm2⟩ := ltH Sm
              have fzSm := frozH Sm
              have cX := cellH X
              obtain ⟨lX, lX1, lX2⟩ := ltH X
              have cR4 := cellH R4
              obtain ⟨lR4, lR41, lR42⟩ := ltH R4
              have fzR4 := frozH R4
              have cB := cellH B
              obtain ⟨lB, lB1, lB2⟩ := ltH B
              clear cSm lSm lSm1 lSm2 fzSm cX lX lX1 lX2 cR4 lR4 lR41 lR42 fzR4 cB lB lB1 lB2
              obtain ⟨g', off', hA', _, j0, j1, _, _⟩ := cells4 (HL.out.below hw31 (Nat.le_refl _)) HE2.out
              injection hA' with hA'
              injection hA' with e1 e2
              subst e1 e2
              have HJ0 : Hid (w31.cell? ⟨g, off + (k + 1) * 4, none⟩ = some (.int .i64 c2.1.num)) := j0
              have HJ1 : Hid (w31.cell? ⟨g, off + (k + 1) * 4 + 1, none⟩ = some (.int .i64 c2.1.den)) := j1
              clear j0 j1
              clear HJ0 HJ1
              cases hbo : bornR b c2.1 s
              · rename_i ge
                have HBO := Lib.hid hbo
                clear hbo
                go_upto_region 19 with fail
                go_cut [12, 13] (fun s12 s13 wx => ∃ g : Nat, s12 = .pointer (some ⟨g, 0, none⟩) ∧ s13 = .iface 122 (.pointer (some (E ge))) ∧ Below w.heap.size w wx ∧ Hid (wx.heap[w13.heap.size]? = some (.cells #[.int .i64 s.num, .int .i64 s.den] 24 (0, 0))) ∧ Hid (wx.heap[w.heap.size]? = some (.cells #[.int .i64 x.num, .int .i64 x.den] 24 (0, 0))) ∧ Hid (wx.heap[w.heap.size + 1]? = some (.cells #[.int .i64 0, .int .i64 0] 24 (0, 0))) ∧ Hid (wx.heap[wr.heap.size]? = some (.cells #[.int .i64 b.1.num, .int .i64 b.1.den, .int .i64 b.2.num, .int .i64 b.2.den] 31 (0, 0))) ∧ Hid (wx.heap[g]? = some (.cells #[.int .i64 0, .int .i64 0] 24 (0, 0))))
                case first =>
                  as_aux_lemma =>
                    have hw32 := hw31
                    have kSm0 : w31.cell? ⟨w13.heap.size, 0, none⟩ = some (.int .i64 s.num) := cellH Sm 0
                    have kSm1 : w31.cell? ⟨w13.heap.size, 1, none⟩ = some (.int .i64 s.den) := cellH Sm 1
                    have kB0 : w31.cell? ⟨wr.heap.size, 0, none⟩ = some (.int .i64 b.1.num) := cellH B 0
                    have kB1 : w31.cell? ⟨wr.heap.size, 1, none⟩ = some (.int .i64 b.1.den) := cellH B 1
                    have kB2 : w31.cell? ⟨wr.heap.size, 2, none⟩ = some (.int .i64 b.2.num) := cellH B 2
                    have kB3 : w31.cell? ⟨wr.heap.size, 3, none⟩ = some (.int .i64 b.2.den) := cellH B 3
                    have kj0 : w31.cell? ⟨g, off + (k + 1) * 4, none⟩ = some (.int .i64 c2.1.num) := (cells4n (HL.out.below hw32 (Nat.le_refl _)) HE2.out)
                    have kj1 : w31.cell? ⟨g, off + (k + 1) * 4 + 1, none⟩ = some (.int .i64 c2.1.den) := (cells4d (HL.out.below hw32 (Nat.le_refl _)) HE2.out)
                    have lSm := lt_of_H Sm
                    have nSm : w13.heap.size ≠ w31.heap.size := Nat.ne_of_lt lSm
                    have lX := lt_of_H X
                    have nX : w.heap.size ≠ w31.heap.size := Nat.ne_of_lt lX
                    have lR4 := lt_of_H R4
                    have nR4 : w.heap.size + 1 ≠ w31.heap.size := Nat.ne_of_lt lR4
                    have lB := lt_of_H B
                    have nB : wr.heap.size ≠ w31.heap.size := Nat.ne_of_lt lB
                    have s3 : (0 : Int) ≤ (k : Int) + 1 := by omega
                    have s4 : (k : Int) + 1 < (gs.length : Int) := by omega
                    have s5 : ((k : Int) + 1).toNat = k + 1 := by omega
                    have s1 : IntKind.i64.wrap ((k : Int) + 1) = (k : Int) + 1 := IntWalk.i64_in _ (by omega)
                    go_region_held3 (fun w' => w'.cell? ⟨w13.heap.size, 0, none⟩ = some (.int .i64 s.num) ∧ w'.cell? ⟨w13.heap.size, 1, none⟩ = some (.int .i64 s.den) ∧ w'.cell? ⟨wr.heap.size, 0, none⟩ = some (.int .i64 b.1.num) ∧ w'.cell? ⟨wr.heap.size, 1, none⟩ = some (.int .i64 b.1.den) ∧ w'.cell? ⟨wr.heap.size, 2, none⟩ = some (.int .i64 b.2.num) ∧ w'.cell? ⟨wr.heap.size, 3, none⟩ = some (.int .i64 b.2.den) ∧ w'.cell? ⟨g, off + (k + 1) * 4, none⟩ = some (.int .i64 c2.1.num) ∧ w'.cell? ⟨g, off + (k + 1) * 4 + 1, none⟩ = some (.int .i64 c2.1.den)) (first | with_reducible exact ⟨kSm0, kSm1, kB0, kB1, kB2, kB3, kj0, kj1⟩ | with_reducible exact ⟨cell_set (cell_set kSm0 (by first | assumption | (dsimp only; assumption) | (dsimp only; omega))) (by first | assumption | (dsimp only; assumption) | (dsimp only; omega)), cell_set (cell_set kSm1 (by first | assumption | (dsimp only; assumption) | (dsimp only; omega))) (by first | assumption | (dsimp only; assumption) | (dsimp only; omega)), cell_set (cell_set kB0 (by first | assumption | (dsimp only; assumption) | (dsimp only; omega))) (by first | assumption | (dsimp only; assumption) | (dsimp only; omega)), cell_set (cell_set kB1 (by first | assumption | (dsimp only; assumption) | (dsimp only; omega))) (by first | assumption | (dsimp only; assumption) | (dsimp only; omega)), cell_set (cell_set kB2 (by first | assumption | (dsimp only; assumption) | (dsimp only; omega))) (by first | assumption | (dsimp only; assumption) | (dsimp only; omega)), cell_set (cell_set kB3 (by first | assumption | (dsimp only; assumption) | (dsimp only; omega))) (by first | assumption | (dsimp only; assumption) | (dsimp only; omega)), cell_set (cell_set kj0 (by first | assumption | (dsimp only; assumption) | (dsimp only; omega))) (by first | assumption | (dsimp only; assumption) | (dsimp only; omega)), cell_set (cell_set kj1 (by first | assumption | (dsimp only; assumption) | (dsimp only; omega))) (by first | assumption | (dsimp only; assumption) | (dsimp only; omega))⟩ | go_keep)
                      (first | (go_at_call 45; refine (borne_any b c2.1 s E _ G0.out GC.out HSM.out (HE.out.below (by (repeat' (first | with_reducible exact Below.refl _ _ | with_reducible assumption | with_reducible refine Below.drew ?_ | with_reducible refine below_drewN ?_ _ | with_reducible refine Below.setCell ?_ ?_ _ | with_reducible refine Below.alloc ?_ ?_ _ | omega | (simp; done) | (simp; omega)))))).mono ?_; rintro e w32 ⟨⟨n', d', err, rfl, hr⟩, hb32⟩; rw [HBO.out] at hr; obtain ⟨rfl, rfl, rfl⟩ := hr; have hw32 : Below w.heap.size w w32 := stepH (by (repeat' (first | with_reducible exact Below.refl _ _ | with_reducible assumption | with_reducible refine Below.drew ?_ | with_reducible refine below_drewN ?_ _ | with_reducible refine Below.setCell ?_ ?_ _ | with_reducible refine Below.alloc ?_ ?_ _ | omega | (simp; done) | (simp; omega)))) hb32; have zw32 := hw32.size; (try (have NB := keepH hb32 (by with_reducible first | exact blk_new rfl | exact drew_old (blk_new rfl) | exact NB.out | exact drew_old NB.out); have cNB := cellH NB; have fNB := frozH NB)); replace Sm := keepH hb32 (by first | with_reducible exact Sm.out | with_reducible exact blk_old Sm.out | with_reducible exact drew_old Sm.out | with_reducible exact drew_old (blk_old Sm.out)); replace X := keepH hb32 (by first | with_reducible exact X.out | with_reducible exact blk_old X.out | with_reducible exact drew_old X.out | with_reducible exact drew_old (blk_old X.out)); replace R4 := keepH hb32 (by first | with_reducible exact R4.out | with_reducible exact blk_old R4.out | with_reducible exact drew_old R4.out | with_reducible exact drew_old (blk_old R4.out)); replace B := keepH hb32 (by first | with_reducible exact B.out | with_reducible exact blk_old B.out | with_reducible exact drew_old B.out | with_reducible exact drew_old (blk_old B.out)); have kSm0 : w32.cell? ⟨w13.heap.size, 0, none⟩ = some (.int .i64 s.num) := cellH Sm 0; have kSm1 : w32.cell? ⟨w13.heap.size, 1, none⟩ = some (.int .i64 s.den) := cellH Sm 1; have kB0 : w32.cell? ⟨wr.heap.size, 0, none⟩ = some (.int .i64 b.1.num) := cellH B 0; have kB1 : w32.cell? ⟨wr.heap.size, 1, none⟩ = some (.int .i64 b.1.den) := cellH B 1; have kB2 : w32.cell? ⟨wr.heap.size, 2, none⟩ = some (.int .i64 b.2.num) := cellH B 2; have kB3 : w32.cell? ⟨wr.heap.size, 3, none⟩ = some (.int .i64 b.2.den) := cellH B 3; have kj0 : w32.cell? ⟨g, off + (k + 1) * 4, none⟩ = some (.int .i64 c2.1.num) := (cells4n (HL.out.below hw32 (Nat.le_refl _)) HE2.out); have kj1 : w32.cell? ⟨g, off + (k + 1) * 4 + 1, none⟩ = some (.int .i64 c2.1.den) := (cells4d (HL.out.below hw32 (Nat.le_refl _)) HE2.out); have lSm := lt_of_H Sm; have nSm : w13.heap.size ≠ w32.heap.size := Nat.ne_of_lt lSm; have lX := lt_of_H X; have nX : w.heap.size ≠ w32.heap.size := Nat.ne_of_lt lX; have lR4 := lt_of_H R4; have nR4 : w.heap.size + 1 ≠ w32.heap.size := Nat.ne_of_lt lR4; have lB := lt_of_H B; have nB : wr.heap.size ≠ w32.heap.size := Nat.ne_of_lt lB))
                    all_goals go_wp2_with fail
                    all_goals go_meet
                    all_goals exact ⟨_, rfl, rfl, (by (repeat' (first | with_reducible exact Below.refl _ _ | with_reducible assumption | with_reducible refine Below.drew ?_ | with_reducible refine below_drewN ?_ _ | with_reducible refine Below.setCell ?_ ?_ _ | with_reducible refine Below.alloc ?_ ?_ _ | omega | (simp; done) | (simp; omega)))), (by with_reducible first | exact Sm | exact setH2o Sm (by assumption) | exact Lib.hid (blk_old Sm.out)), (by with_reducible first | exact X | exact setH2o X (by assumption) | exact Lib.hid (blk_old X.out)), (by with_reducible first | exact R4 | exact setH2o R4 (by assumption) | exact Lib.hid (blk_old R4.out)), (by with_reducible first | exact B | exact setH2o B (by assumption) | exact Lib.hid (blk_old B.out)), (by first | with_reducible exact setH2 NB.out | exact blk_new rfl)⟩
                case rest =>
                  as_aux_lemma =>
                    clear Sm X R4 B
                    obtain ⟨gNx, rfl, rfl, hw33, Sm, X, R4, B, Nx⟩ := hcut
                    obtain ⟨w33, rfl⟩ : ∃ x : World, x = wc := ⟨_, rfl⟩
                    have z33 := hw33.size
                    have cSm := cellH Sm
                    obtain ⟨lSm, lSm1, lSm2⟩ := ltH Sm
                    have fzSm := frozH Sm
                    have cX := cellH X
                    obtain ⟨lX, lX1, lX2⟩ := ltH X
                    have cR4 := cellH R4
                    obtain ⟨lR4, lR41, lR42⟩ := ltH R4
                    have fzR4 := frozH R4
                    have cB := cellH B
                    obtain ⟨lB, lB1, lB2⟩ := ltH B
                    have cNx := cellH Nx
                    obtain ⟨lNx, lNx1, lNx2⟩ := ltH Nx
                    have hen := fun w => eql_nil (E ge) w
                    have HM2 : findL x s (gs.drop k) = .error ge := by rw [HMO.out, HBO.out]
                    have HR := Lib.hid (HF.out.trans (hfi.out.trans HM2))
                    clear HM2
                    go_wp2_with fail
                    refine bodyPost_ret (v := .tuple #[.agg #[.int .i64 0, .int .i64 0], .iface 122 (.pointer (some (E ge)))]) (by simp [results, Tryd.results22, go_sem, cR4]) rfl ⟨⟨_, _, _, rfl, resF_fail HR.out⟩, by (repeat' (first | with_reducible exact Below.refl _ _ | with_reducible assumption | with_reducible refine Below.drew ?_ | with_reducible refine below_drewN ?_ _ | with_reducible refine Below.setCell ?_ ?_ _ | with_reducible refine Below.alloc ?_ ?_ _ | omega | (simp; done) | (simp; omega)))⟩
              · rename_i nx
                have HBO := Lib.hid hbo
                have HNX := Lib.hid (bornR_good hbo)
                clear hbo
                go_upto_region 19 with fail
                go_cut [12, 13] (fun s12 s13 wx => ∃ g : Nat, s12 = .pointer (some ⟨g, 0, none⟩) ∧ s13 = .nilIface ∧ Below w.heap.size w wx ∧ Hid (wx.heap[w13.heap.size]? = some (.cells #[.int .i64 s.num, .int .i64 s.den] 24 (0, 0))) ∧ Hid (wx.heap[w.heap.size]? = some (.cells #[.int .i64 x.num, .int .i64 x.den] 24 (0, 0))) ∧ Hid (wx.heap[w.heap.size + 1]? = some (.cells #[.int .i64 0, .int .i64 0] 24 (0, 0))) ∧ Hid (wx.heap[wr.heap.size]? = some (.cells #[.int .i64 b.1.num, .int .i64 b.1.den, .int .i64 b.2.num, .int .i64 b.2.den] 31 (0, 0))) ∧ Hid (wx.heap[g]? = some (.cells #[.int .i64 nx.num, .int .i64 nx.den] 24 (0, 0))))
                case first =>
                  as_aux_lemma =>
                    have hw34 := hw31
                    have kSm0 : w31.cell? ⟨w13.heap.size, 0, none⟩ = some (.int .i64 s.num) := cellH Sm 0
                    have kSm1 : w31.cell? ⟨w13.heap.size, 1, none⟩ = some (.int .i64 s.den) := cellH Sm 1
                    have kB0 : w31.cell? ⟨wr.heap.size, 0, none⟩ = some (.int .i64 b.1.num) := cellH B 0
                    have kB1 : w31.cell? ⟨wr.heap.size, 1, none⟩ = some (.int .i64 b.1.den) := cellH B 1
                    have kB2 : w31.cell? ⟨wr.heap.size, 2, none⟩ = some (.int .i64 b.2.num) := cellH B 2
                    have kB3 : w31.cell? ⟨wr.heap.size, 3, none⟩ = some (.int .i64 b.2.den) := cellH B 3
                    have kj0 : w31.cell? ⟨g, off + (k + 1) * 4, none⟩ = some (.int .i64 c2.1.num) := (cells4n (HL.out.below hw34 (Nat.le_refl _)) HE2.out)
                    have kj1 : w31.cell? ⟨g, off + (k + 1) * 4 + 1, none⟩ = some (.int .i64 c2.1.den) := (cells4d (HL.out.below hw34 (Nat.le_refl _)) HE2.out)
                    have lSm := lt_of_H Sm
                    have nSm : w13.heap.size ≠ w31.heap.size := Nat.ne_of_lt lSm
                    have lX := lt_of_H X
                    have nX : w.heap.size ≠ w31.heap.size := Nat.ne_of_lt lX
                    have lR4 := lt_of_H R4
                    have nR4 : w.heap.size + 1 ≠ w31.heap.size := Nat.ne_of_lt lR4
                    have lB := lt_of_H B
                    have nB : wr.heap.size ≠ w31.heap.size := Nat.ne_of_lt lB
                    have s3 : (0 : Int) ≤ (k : Int) + 1 := by omega
                    have s4 : (k : Int) + 1 < (gs.length : Int) := by omega
                    have s5 : ((k : Int) + 1).toNat = k + 1 := by omega
                    have s1 : IntKind.i64.wrap ((k : Int) + 1) = (k : Int) + 1 := IntWalk.i64_in _ (by omega)
                    go_region_held3 (fun w' => w'.cell? ⟨w13.heap.size, 0, none⟩ = some (.int .i64 s.num) ∧ w'.cell? ⟨w13.heap.size, 1, none⟩ = some (.int .i64 s.den) ∧ w'.cell? ⟨wr.heap.size, 0, none⟩ = some (.int .i64 b.1.num) ∧ w'.cell? ⟨wr.heap.size, 1, none⟩ = some (.int .i64 b.1.den) ∧ w'.cell? ⟨wr.heap.size, 2, none⟩ = some (.int .i64 b.2.num) ∧ w'.cell? ⟨wr.heap.size, 3, none⟩ = some (.int .i64 b.2.den) ∧ w'.cell? ⟨g, off + (k + 1) * 4, none⟩ = some (.int .i64 c2.1.num) ∧ w'.cell? ⟨g, off + (k + 1) * 4 + 1, none⟩ = some (.int .i64 c2.1.den)) (first | with_reducible exact ⟨kSm0, kSm1, kB0, kB1, kB2, kB3, kj0, kj1⟩ | with_reducible exact ⟨cell_set (cell_set kSm0 (by first | assumption | (dsimp only; assumption) | (dsimp only; omega))) (by first | assumption | (dsimp only; assumption) | (dsimp only; omega)), cell_set (cell_set kSm1 (by first | assumption | (dsimp only; assumption) | (dsimp only; omega))) (by first | assumption | (dsimp only; assumption) | (dsimp only; omega)), cell_set (cell_set kB0 (by first | assumption | (dsimp only; assumption) | (dsimp only; omega))) (by first | assumption | (dsimp only; assumption) | (dsimp only; omega)), cell_set (cell_set kB1 (by first | assumption | (dsimp only; assumption) | (dsimp only; omega))) (by first | assumption | (dsimp only; assumption) | (dsimp only; omega)), cell_set (cell_set kB2 (by first | assumption | (dsimp only; assumption) | (dsimp only; omega))) (by first | assumption | (dsimp only; assumption) | (dsimp only; omega)), cell_set (cell_set kB3 (by first | assumption | (dsimp only; assumption) | (dsimp only; omega))) (by first | assumption | (dsimp only; assumption) | (dsimp only; omega)), cell_set (cell_set kj0 (by first | assumption | (dsimp only; assumption) | (dsimp only; omega))) (by first | assumption | (dsimp only; assumption) | (dsimp only; omega)), cell_set (cell_set kj1 (by first | assumption | (dsimp only; assumption) | (dsimp only; omega))) (by first | assumption | (dsimp only; assumption) | (dsimp only; omega))⟩ | go_keep)
                      (first | (go_at_call 45; refine (borne_any b c2.1 s E _ G0.out GC.out HSM.out (HE.out.below (by (repeat' (first | with_reducible exact Below.refl _ _ | with_reducible assumption | with_reducible refine Below.drew ?_ | with_reducible refine below_drewN ?_ _ | with_reducible refine Below.setCell ?_ ?_ _ | with_reducible refine Below.alloc ?_ ?_ _ | omega | (simp; done) | (simp; omega)))))).mono ?_; rintro e w34 ⟨⟨n', d', err, rfl, hr⟩, hb34⟩; rw [HBO.out] at hr; obtain ⟨rfl, rfl, rfl⟩ := hr; have hw34 : Below w.heap.size w w34 := stepH (by (repeat' (first | with_reducible exact Below.refl _ _ | with_reducible assumption | with_reducible refine Below.drew ?_ | with_reducible refine below_drewN ?_ _ | with_reducible refine Below.setCell ?_ ?_ _ | with_reducible refine Below.alloc ?_ ?_ _ | omega | (simp; done) | (simp; omega)))) hb34; have zw34 := hw34.size; (try (have NB := keepH hb34 (by with_reducible first | exact blk_new rfl | exact drew_old (blk_new rfl) | exact NB.out | exact drew_old NB.out); have cNB := cellH NB; have fNB := frozH NB)); replace Sm := keepH hb34 (by first | with_reducible exact Sm.out | with_reducible exact blk_old Sm.out | with_reducible exact drew_old Sm.out | with_reducible exact drew_old (blk_old Sm.out)); replace X := keepH hb34 (by first | with_reducible exact X.out | with_reducible exact blk_old X.out | with_reducible exact drew_old X.out | with_reducible exact drew_old (blk_old X.out)); replace R4 := keepH hb34 (by first | with_reducible exact R4.out | with_reducible exact blk_old R4.out | with_reducible exact drew_old R4.out | with_reducible exact drew_old (blk_old R4.out)); replace B := keepH hb34 (by first | with_reducible exact B.out | with_reducible exact blk_old B.out | with_reducible exact drew_old B.out | with_reducible exact drew_old (blk_old B.out)); have kSm0 : w34.cell? ⟨w13.heap.size, 0, none⟩ = some (.int .i64 s.num) := cellH Sm 0; have kSm1 : w34.cell? ⟨w13.heap.size, 1, none⟩ = some (.int .i64 s.den) := cellH Sm 1; have kB0 : w34.cell? ⟨wr.heap.size, 0, none⟩ = some (.int .i64 b.1.num) := cellH B 0; have kB1 : w34.cell? ⟨wr.heap.size, 1, none⟩ = some (.int .i64 b.1.den) := cellH B 1; have kB2 : w34.cell? ⟨wr.heap.size, 2, none⟩ = some (.int .i64 b.2.num) := cellH B 2; have kB3 : w34.cell? ⟨wr.heap.size, 3, none⟩ = some (.int .i64 b.2.den) := cellH B 3; have kj0 : w34.cell? ⟨g, off + (k + 1) * 4, none⟩ = some (.int .i64 c2.1.num) := (cells4n (HL.out.below hw34 (Nat.le_refl _)) HE2.out); have kj1 : w34.cell? ⟨g, off + (k + 1) * 4 + 1, none⟩ = some (.int .i64 c2.1.den) := (cells4d (HL.out.below hw34 (Nat.le_refl _)) HE2.out); have lSm := lt_of_H Sm; have nSm : w13.heap.size ≠ w34.heap.size := Nat.ne_of_lt lSm; have lX := lt_of_H X; have nX : w.heap.size ≠ w34.heap.size := Nat.ne_of_lt lX; have lR4 := lt_of_H R4; have nR4 : w.heap.size + 1 ≠ w34.heap.size := Nat.ne_of_lt lR4; have lB := lt_of_H B; have nB : wr.heap.size ≠ w34.heap.size := Nat.ne_of_lt lB))
                    all_goals go_wp2_with fail
                    all_goals go_meet
                    all_goals exact ⟨_, rfl, rfl, (by (repeat' (first | with_reducible exact Below.refl _ _ | with_reducible assumption | with_reducible refine Below.drew ?_ | with_reducible refine below_drewN ?_ _ | with_reducible refine Below.setCell ?_ ?_ _ | with_reducible refine Below.alloc ?_ ?_ _ | omega | (simp; done) | (simp; omega)))), (by with_reducible first | exact Sm | exact setH2o Sm (by assumption) | exact Lib.hid (blk_old Sm.out)), (by with_reducible first | exact X | exact setH2o X (by assumption) | exact Lib.hid (blk_old X.out)), (by with_reducible first | exact R4 | exact setH2o R4 (by assumption) | exact Lib.hid (blk_old R4.out)), (by with_reducible first | exact B | exact setH2o B (by assumption) | exact Lib.hid (blk_old B.out)), (by first | with_reducible exact setH2 NB.out | exact blk_new rfl)⟩
                case rest =>
                  as_aux_lemma =>
                    clear Sm X R4 B
                    obtain ⟨gNx, rfl, rfl, hw35, Sm, X, R4, B, Nx⟩ := hcut
                    obtain ⟨w35, rfl⟩ : ∃ x : World, x = wc := ⟨_, rfl⟩
                    have z35 := hw35.size
                    have cSm := cellH Sm
                    obtain ⟨lSm, lSm1, lSm2⟩ := ltH Sm
                    have fzSm := frozH Sm
                    have cX := cellH X
                    obtain ⟨lX, lX1, lX2⟩ := ltH X
                    have cR4 := cellH R4
                    obtain ⟨lR4, lR41, lR42⟩ := ltH R4
                    have fzR4 := frozH R4
                    have cB := cellH B
                    obtain ⟨lB, lB1, lB2⟩ := ltH B
                    have cNx := cellH Nx
                    obtain ⟨lNx, lNx1, lNx2⟩ := ltH Nx
                    obtain ⟨cc, hcc⟩ : ∃ cc, cmpQ x nx = cc := ⟨_, rfl⟩
                    have HC := Lib.hid hcc
                    clear hcc
                    by_cases hle : x ≤ nx
                    · have hc0 : cc ≤ 0 := by rw [← HC.out]; unfold cmpQ; split; omega; rw [if_neg (Rat.not_lt.2 hle)]; omega
                      have HM2 : findL x s (gs.drop k) = behR b x s := by rw [HMO.out, HBO.out]; exact if_pos hle
                      have HR := Lib.hid (HF.out.trans (hfi.out.trans HM2))
                      clear hle HM2
                      go_wp2_with fail
                      refine (cmpS x nx cc _ HX.out HNX.out HC.out).mono ?_
                      rintro e w36 ⟨rfl, hb36⟩
                      have hw36 : Below w.heap.size w w36 := stepH (by (repeat' (first | with_reducible exact Below.refl _ _ | with_reducible assumption | with_reducible refine Below.drew ?_ | with_reducible refine below_drewN ?_ _ | with_reducible refine Below.setCell ?_ ?_ _ | with_reducible refine Below.alloc ?_ ?_ _ | omega | (simp; done) | (simp; omega)))) hb36
                      replace Sm := keepH hb36 Sm.out
                      replace X := keepH hb36 X.out
                      replace R4 := keepH hb36 R4.out
                      replace B := keepH hb36 B.out
                      replace Nx := keepH hb36 Nx.out
                      have z36 := hw36.size
                      clear hb36 hw35 z35
                      clear cSm lSm lSm1 lSm2 fzSm cX lX lX1 lX2 cR4 lR4 lR41 lR42 fzR4 cB lB lB1 lB2 cNx lNx lNx1 lNx2
                      have cSm := cellH Sm
                      obtain ⟨lSm, lSm1, lSm2⟩ := ltH Sm
                      have fzSm := frozH Sm
                      have cX := cellH X
                      obtain ⟨lX, lX1, lX2⟩ := ltH X
                      have cR4 := cellH R4
                      obtain ⟨lR4, lR41, lR42⟩ := ltH R4
                      have fzR4 := frozH R4
                      have cB := cellH B
                      obtain ⟨lB, lB1, lB2⟩ := ltH B
                      have cNx := cellH Nx
                      obtain ⟨lNx, lNx1, lNx2⟩ := ltH Nx
                      go_wp2_with fail
                      refine (behind_any b x s E _ G0.out HX.out HSM.out (HE.out.below (by (repeat' (first | with_reducible exact Below.refl _ _ | with_reducible assumption | with_reducible refine Below.drew ?_ | with_reducible refine below_drewN ?_ _ | with_reducible refine Below.setCell ?_ ?_ _ | with_reducible refine Below.alloc ?_ ?_ _ | omega | (simp; done) | (simp; omega)))))).mono ?_
                      rintro e w37 ⟨⟨n', d', err, rfl, hr⟩, hb37⟩
                      have hw37 : Below w.heap.size w w37 := stepH (by (repeat' (first | with_reducible exact Below.refl _ _ | with_reducible assumption | with_reducible refine Below.drew ?_ | with_reducible refine below_drewN ?_ _ | with_reducible refine Below.setCell ?_ ?_ _ | with_reducible refine Below.alloc ?_ ?_ _ | omega | (simp; done) | (simp; omega)))) hb37
                      replace Sm := keepH hb37 Sm.out
                      replace X := keepH hb37 X.out
                      replace R4 := keepH hb37 R4.out
                      replace B := keepH hb37 B.out
                      replace Nx := keepH hb37 Nx.out
                      have z37 := hw37.size
                      clear hb37 hw36 z36
                      clear cSm lSm lSm1 lSm2 fzSm cX lX lX1 lX2 cR4 lR4 lR41 lR42 fzR4 cB lB lB1 lB2 cNx lNx lNx1 lNx2
                      have cSm := cellH Sm
                      obtain ⟨lSm, lSm1, lSm2⟩ := ltH Sm
                      have fzSm := frozH Sm
                      have cX := cellH X
                      obtain ⟨lX, lX1, lX2⟩ := ltH X
                      have cR4 := cellH R4
                      obtain ⟨lR4, lR41, lR42⟩ := ltH R4
                      have fzR4 := frozH R4
                      have cB := cellH B
                      obtain ⟨lB, lB1, lB2⟩ := ltH B
                      have cNx := cellH Nx
                      obtain ⟨lNx, lNx1, lNx2⟩ := ltH Nx
                      rw [← HR.out] at hr
                      have HRR := Lib.hid hr
                      clear hr
                      go_wp2_with fail
                      refine bodyPost_ret (v := .tuple #[.agg #[.int .i64 n', .int .i64 d'], err]) (by simp [results, Tryd.results22, go_sem, cR4]) rfl ⟨⟨_, _, _, rfl, HRR.out⟩, by (repeat' (first | with_reducible exact Below.refl _ _ | with_reducible assumption | with_reducible refine Below.drew ?_ | with_reducible refine below_drewN ?_ _ | with_reducible refine Below.setCell ?_ ?_ _ | with_reducible refine Below.alloc ?_ ?_ _ | omega | (simp; done) | (simp; omega)))⟩
                    · have hc1 : 0 < cc := by rw [← HC.out, cmp_gt (Rat.not_le.1 hle)]; omega
                      have HM2 : findL x s (gs.drop k) = findL x nx (gs.drop (k + 1)) := by rw [HMO.out, HBO.out]; exact if_neg hle
                      have HR := Lib.hid (hfi.out.trans HM2)
                      clear hle HM2
                      go_wp2_with fail
                      refine (cmpS x nx cc _ HX.out HNX.out HC.out).mono ?_
                      rintro e w38 ⟨rfl, hb38⟩
                      have hw38 : Below w.heap.size w w38 := stepH (by (repeat' (first | with_reducible exact Below.refl _ _ | with_reducible assumption | with_reducible refine Below.drew ?_ | with_reducible refine below_drewN ?_ _ | with_reducible refine Below.setCell ?_ ?_ _ | with_reducible refine Below.alloc ?_ ?_ _ | omega | (simp; done) | (simp; omega)))) hb38
                      replace Sm := keepH hb38 Sm.out
                      replace X := keepH hb38 X.out
                      replace R4 := keepH hb38 R4.out
                      replace B := keepH hb38 B.out
                      replace Nx := keepH hb38 Nx.out
                      have z38 := hw38.size
                      clear hb38 hw35 z35
                      clear cSm lSm lSm1 lSm2 fzSm cX lX lX1 lX2 cR4 lR4 lR41 lR42 fzR4 cB lB lB1 lB2 cNx lNx lNx1 lNx2
                      have cSm := cellH Sm
                      obtain ⟨lSm, lSm1, lSm2⟩ := ltH Sm
                      have fzSm := frozH Sm
                      have cX := cellH X
                      obtain ⟨lX, lX1, lX2⟩ := ltH X
                      have cR4 := cellH R4
                      obtain ⟨lR4, lR41, lR42⟩ := ltH R4
                      have fzR4 := frozH R4
                      have cB := cellH B
                      obtain ⟨lB, lB1, lB2⟩ := ltH B
                      have cNx := cellH Nx
                      obtain ⟨lNx, lNx1, lNx2⟩ := ltH Nx
                      go_wp2_with fail
                      clear cSm lSm lSm1 lSm2 fzSm cX lX lX1 lX2 cR4 lR4 lR41 lR42 fzR4 cB lB lB1 lB2 cNx lNx lNx1 lNx2
                      have hw39 : Below w.heap.size w ((w38.setCell ⟨w13.heap.size, 0, none⟩ (.int .i64 nx.num)).setCell ⟨w13.heap.size, 1, none⟩ (.int .i64 nx.den)) := by (repeat' (first | with_reducible exact Below.refl _ _ | with_reducible assumption | with_reducible refine Below.drew ?_ | with_reducible refine below_drewN ?_ _ | with_reducible refine Below.setCell ?_ ?_ _ | with_reducible refine Below.alloc ?_ ?_ _ | omega | (simp; done) | (simp; omega)))
                      replace Sm : Hid (((w38.setCell ⟨w13.heap.size, 0, none⟩ (.int .i64 nx.num)).setCell ⟨w13.heap.size, 1, none⟩ (.int .i64 nx.den)).heap[w13.heap.size]? = some (.cells #[.int .i64 nx.num, .int .i64 nx.den] 24 (0, 0))) := setH2 Sm.out
                      replace X : Hid (((w38.setCell ⟨w13.heap.size, 0, none⟩ (.int .i64 nx.num)).setCell ⟨w13.heap.size, 1, none⟩ (.int .i64 nx.den)).heap[w.heap.size]? = some (.cells #[.int .i64 x.num, .int .i64 x.den] 24 (0, 0))) := setH2o X (by first | assumption | omega)
                      replace R4 : Hid (((w38.setCell ⟨w13.heap.size, 0, none⟩ (.int .i64 nx.num)).setCell ⟨w13.heap.size, 1, none⟩ (.int .i64 nx.den)).heap[w.heap.size + 1]? = some (.cells #[.int .i64 0, .int .i64 0] 24 (0, 0))) := setH2o R4 (by first | assumption | omega)
                      generalize ((w38.setCell ⟨w13.heap.size, 0, none⟩ (.int .i64 nx.num)).setCell ⟨w13.heap.size, 1, none⟩ (.int .i64 nx.den)) = w39 at *
                      have z39 := hw39.size
                      have cSm := cellH Sm
                      obtain ⟨lSm, lSm1, lSm2⟩ := ltH Sm
                      have fzSm := frozH Sm
                      have cX := cellH X
                      obtain ⟨lX, lX1, lX2⟩ := ltH X
                      have cR4 := cellH R4
                      obtain ⟨lR4, lR41, lR42⟩ := ltH R4
                      have fzR4 := frozH R4
                      go_roundw
                      case rel => exact ⟨k + 1, nx, hl2, by go_num, HR, HNX.out, Sm, X, R4, hw39⟩
                      case measure => simp [intOf]; omega
            · have hkl : k + 1 = gs.length := by omega
              have HLA := Lib.hid (findL_last (y := x) (s := s) HB.out hkl)
              have hke : (((k : Int) + 1) == (gs.length : Int)) = true := by simp; omega
              clear cSm lSm lSm1 lSm2 fzSm cX lX lX1 lX2 cR4 lR4 lR41 lR42 fzR4
              have cSm := cellH Sm
              obtain ⟨lSm, lSm1, lSm2⟩ := ltH Sm
              have fzSm := frozH Sm
              have cX := cellH X
              obtain ⟨lX, lX1, lX2⟩ := ltH X
              have cR4 := cellH R4
              obtain ⟨lR4, lR41, lR42⟩ := ltH R4
              have fzR4 := frozH R4
              by_cases hp : 0 < b.2.num
              · have HR := Lib.hid (HF.out.trans (hfi.out.trans (HLA.out.trans (if_pos hp))))
                go_wp2_with fail
                refine (behind_any b x s E _ G0.out HX.out HSM.out (HE.out.below (by (repeat' (first | with_reducible exact Below.refl _ _ | with_reducible assumption | with_reducible refine Below.drew ?_ | with_reducible refine below_drewN ?_ _ | with_reducible refine Below.setCell ?_ ?_ _ | with_reducible refine Below.alloc ?_ ?_ _ | omega | (simp; done) | (simp; omega)))))).mono ?_
                rintro e w40 ⟨⟨n', d', err, rfl, hr⟩, hb40⟩
                have hw40 : Below w.heap.size w w40 := stepH (by (repeat' (first | with_reducible exact Below.refl _ _ | with_reducible assumption | with_reducible refine Below.drew ?_ | with_reducible refine below_drewN ?_ _ | with_reducible refine Below.setCell ?_ ?_ _ | with_reducible refine Below.alloc ?_ ?_ _ | omega | (simp; done) | (simp; omega)))) hb40
                replace Sm := keepH hb40 (blk_old Sm.out)
                replace X := keepH hb40 (blk_old X.out)
                replace R4 := keepH hb40 (blk_old R4.out)
                have B := keepH hb40 (g := wr.heap.size) (blk_new rfl)
                have z40 := hw40.size
                clear hb40 hw0 z0
                clear cSm lSm lSm1 lSm2 fzSm cX lX lX1 lX2 cR4 lR4 lR41 lR42 fzR4
                have cSm := cellH Sm
                obtain ⟨lSm, lSm1, lSm2⟩ := ltH Sm
                have fzSm := frozH Sm
                have cX := cellH X
                obtain ⟨lX, lX1, lX2⟩ := ltH X
                have cR4 := cellH R4
                obtain ⟨lR4, lR41, lR42⟩ := ltH R4
                have fzR4 := frozH R4
                have cB := cellH B
                obtain ⟨lB, lB1, lB2⟩ := ltH B
                rw [← HR.out] at hr
                have HRR := Lib.hid hr
                clear hr
                go_wp2_with fail
                refine bodyPost_ret (v := .tuple #[.agg #[.int .i64 n', .int .i64 d'], err]) (by simp [results, Tryd.results22, go_sem, cR4]) rfl ⟨⟨_, _, _, rfl, HRR.out⟩, by (repeat' (first | with_reducible exact Below.refl _ _ | with_reducible assumption | with_reducible refine Below.drew ?_ | with_reducible refine below_drewN ?_ _ | with_reducible refine Below.setCell ?_ ?_ _ | with_reducible refine Below.alloc ?_ ?_ _ | omega | (simp; done) | (simp; omega)))⟩
              · have HR := Lib.hid (HF.out.trans (hfi.out.trans (HLA.out.trans (if_neg hp))))
                have hp2 : b.2.num ≤ 0 := by omega
                clear hp
                go_upto_region 26 with fail
                have hw41 : Below w.heap.size w (wr.alloc (.cells #[.int .i64 b.1.num, .int .i64 b.1.den, .int .i64 b.2.num, .int .i64 b.2.den] 31)) := by (repeat' (first | with_reducible exact Below.refl _ _ | with_reducible assumption | with_reducible refine Below.drew ?_ | with_reducible refine below_drewN ?_ _ | with_reducible refine Below.setCell ?_ ?_ _ | with_reducible refine Below.alloc ?_ ?_ _ | omega | (simp; done) | (simp; omega)))
                replace Sm : Hid ((wr.alloc (.cells #[.int .i64 b.1.num, .int .i64 b.1.den, .int .i64 b.2.num, .int .i64 b.2.den] 31)).heap[w13.heap.size]? = some (.cells #[.int .i64 s.num, .int .i64 s.den] 24 (0, 0))) := (blk_old Sm.out)
                replace X : Hid ((wr.alloc (.cells #[.int .i64 b.1.num, .int .i64 b.1.den, .int .i64 b.2.num, .int .i64 b.2.den] 31)).heap[w.heap.size]? = some (.cells #[.int .i64 x.num, .int .i64 x.den] 24 (0, 0))) := (blk_old X.out)
                replace R4 : Hid ((wr.alloc (.cells #[.int .i64 b.1.num, .int .i64 b.1.den, .int .i64 b.2.num, .int .i64 b.2.den] 31)).heap[w.heap.size + 1]? = some (.cells #[.int .i64 0, .int .i64 0] 24 (0, 0))) := (blk_old R4.out)
                have B : Hid ((wr.alloc (.cells #[.int .i64 b.1.num, .int .i64 b.1.den, .int .i64 b.2.num, .int .i64 b.2.den] 31)).heap[wr.heap.size]? = some (.cells #[.int .i64 b.1.num, .int .i64 b.1.den, .int .i64 b.2.num, .int .i64 b.2.den] 31 (0, 0))) := (blk_new rfl)
                clear cSm lSm lSm1 lSm2 fzSm cX lX lX1 lX2 cR4 lR4 lR41 lR42 fzR4
                generalize (wr.alloc (.cells #[.int .i64 b.1.num, .int .i64 b.1.den, .int .i64 b.2.num, .int .i64 b.2.den] 31)) = w41 at *
                have z41 := hw41.size
                have cSm := cellH Sm
                obtain ⟨lSm, lSm1, lSm2⟩ := ltH Sm
                have fzSm := frozH Sm
                have cX := cellH X
                obtain ⟨lX, lX1, lX2⟩ := ltH X
                have cR4 := cellH R4
                obtain ⟨lR4, lR41, lR42⟩ := ltH R4
                have fzR4 := frozH R4
                have cB := cellH B
                obtain ⟨lB, lB1, lB2⟩ := ltH B
                clear cSm lSm lSm1 lSm2 fzSm cX lX lX1 lX2 cR4 lR4 lR41 lR42 fzR4 cB lB lB1 lB2
                have ge := (HE.out.below hw41).cell 0 (by decide)
                have cSm := cellH Sm
                obtain ⟨lSm, lSm1, lSm2⟩ := ltH Sm
                have fzSm := frozH Sm
                have cX := cellH X
                obtain ⟨lX, lX1, lX2⟩ := ltH X
                have cR4 := cellH R4
                obtain ⟨lR4, lR41, lR42⟩ := ltH R4
                have fzR4 := frozH R4
                have cB := cellH B
                obtain ⟨lB, lB1, lB2⟩ := ltH B
                have hnq : (w.heap.size ≠ 0) := by have := (HE.out.sent 0 (by decide)).2.1; omega
                go_region
                all_goals go_wp2_with fail
                all_goals refine bodyPost_ret (v := .tuple #[.agg #[.int .i64 0, .int .i64 0], .iface 122 (.pointer (some (E 0)))]) (by simp [results, Tryd.results22, go_sem, cR4]) rfl ⟨⟨_, _, _, rfl, resF_fail HR.out⟩, by (repeat' (first | with_reducible exact Below.refl _ _ | with_reducible assumption | with_reducible refine Below.drew ?_ | with_reducible refine below_drewN ?_ _ | with_reducible refine Below.setCell ?_ ?_ _ | with_reducible refine Below.alloc ?_ ?_ _ | omega | (simp; done) | (simp; omega)))⟩
  · rename_i g
    have HS := Lib.hid hs
    have hen := fun w => eql_nil (E g) w
    clear hs
    go_enter Tryd.func22, Tryd.ntmps22
    go_wp2_with fail
    refine (HASK.out _ (by (repeat' (first | with_reducible exact Below.refl _ _ | with_reducible assumption | with_reducible refine Below.drew ?_ | with_reducible refine below_drewN ?_ _ | with_reducible refine Below.setCell ?_ ?_ _ | with_reducible refine Below.alloc ?_ ?_ _ | omega | (simp; done) | (simp; omega))))).mono ?_
    rintro e w51 ⟨rfl, hb51⟩
    have hw51 : Below w.heap.size w w51 := stepH (by (repeat' (first | with_reducible exact Below.refl _ _ | with_reducible assumption | with_reducible refine Below.drew ?_ | with_reducible refine below_drewN ?_ _ | with_reducible refine Below.setCell ?_ ?_ _ | with_reducible refine Below.alloc ?_ ?_ _ | omega | (simp; done) | (simp; omega)))) hb51
    rw [HS.out]
    unfold errV
    have X := keepH hb51 (g := w.heap.size) (blk_old (blk_new rfl))
    have R4 := keepH hb51 (g := w.heap.size + 1) (blk_new (by simp))
    have z51 := hw51.size
    clear hb51
    have cX := cellH X
    obtain ⟨lX, lX1, lX2⟩ := ltH X
    have cR4 := cellH R4
    obtain ⟨lR4, lR41, lR42⟩ := ltH R4
    have fzR4 := frozH R4
    go_wp2_with fail
    refine bodyPost_ret (v := .tuple #[.agg #[.int .i64 0, .int .i64 0], .iface 122 (.pointer (some (E g)))]) (by simp [results, Tryd.results22, go_sem, cR4]) rfl ⟨⟨_, _, _, rfl, resF_fail (findI_err HS.out)⟩, by (repeat' (first | with_reducible exact Below.refl _ _ | with_reducible assumption | with_reducible refine Below.drew ?_ | with_reducible refine below_drewN ?_ _ | with_reducible refine Below.setCell ?_ ?_ _ | with_reducible refine Below.alloc ?_ ?_ _ | omega | (simp; done) | (simp; omega)))⟩

end Go.Proofs.YtmankldedhgdiaaDoor
