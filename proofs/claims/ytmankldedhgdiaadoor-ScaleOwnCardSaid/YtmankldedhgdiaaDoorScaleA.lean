/- Brackets in memory; Valid, ask, zero: walks. -/
import Derived.Test.YtmankldedhgdiaaDoorSumsLaw
namespace Go.Proofs.YtmankldedhgdiaaDoor
open Go.RowKit

abbrev BI := Int × Int × Int × Int

def encR (b : BI) : List Value := [.int .i64 b.1, .int .i64 b.2.1, .int .i64 b.2.2.1, .int .i64 b.2.2.2]

theorem encR_len (b : BI) : (encR b).length = 4 := rfl

def In4 (b : BI) : Prop := (-9223372036854775808 ≤ b.1 ∧ b.1 ≤ 9223372036854775807) ∧ (-9223372036854775808 ≤ b.2.1 ∧ b.2.1 ≤ 9223372036854775807) ∧ (-9223372036854775808 ≤ b.2.2.1 ∧ b.2.2.1 ≤ 9223372036854775807) ∧ (-9223372036854775808 ≤ b.2.2.2 ∧ b.2.2.2 ≤ 9223372036854775807)

/-- the sentinels of scale -/
def LC : List Nat := [5, 4, 3, 1, 2, 0]

/-- a bracket of two fractions: From, Rate -/
def bR (x : Rat × Rat) : BI := (x.1.num, x.1.den, x.2.num, x.2.den)

def vB (b : BI) : Bool := validB b.1 b.2.1 && validB b.2.2.1 b.2.2.2

def GoodB (x : Rat × Rat) : Prop := Good x.1 ∧ Good x.2

theorem all_bR {l : List BI} (h : ∀ x ∈ l, vB x = true) : ∃ gs : List (Rat × Rat), l = gs.map bR ∧ ∀ x ∈ gs, GoodB x := by
  induction l with
  | nil => exact ⟨[], rfl, fun x h => by simp at h⟩
  | cons b r ih =>
    obtain ⟨gs, rfl, hg⟩ := ih fun x hx => h x (List.mem_cons_of_mem _ hx)
    have hb := h b (List.mem_cons_self ..)
    unfold vB at hb
    rw [Bool.and_eq_true] at hb
    obtain ⟨p, hp, e1, e2⟩ := good_of_validB hb.1
    obtain ⟨q, hq, e3, e4⟩ := good_of_validB hb.2
    refine ⟨(p, q) :: gs, ?_, fun x hx => ?_⟩
    · rw [List.map_cons]
      congr 1
      obtain ⟨b1, b2, b3, b4⟩ := b
      simp only at e1 e2 e3 e4
      rw [e1, e2, e3, e4]; rfl
    · rcases List.mem_cons.1 hx with rfl | hx
      · exact ⟨hp, hq⟩
      · exact hg x hx

def frm (b : BI) : Rat := Rat.divInt b.1 b.2.1

theorem frm_bR (x : Rat × Rat) : frm (bR x) = x.1 := Rat.num_divInt_den x.1

def riN (fs : List Rat) : Nat → Bool
  | 0 => true
  | k + 1 => riN fs k && decide (fs.getD k 0 < fs.getD (k + 1) 0)

/-- what is wrong with a scale -/
def scaleE (s : List BI) : Option Nat :=
  if 32 < s.length then some 2
  else if s.all vB = false then some 3
  else if riN (s.map frm) (s.length - 1) = false then some 1
  else if s.length = 0 then some 1
  else none

def errV (E : Nat → Addr) : Option Nat → Value
  | none => .nilIface
  | some g => .iface 122 (.pointer (some (E g)))

theorem errV_some {E : Nat → Addr} {r : Option Nat} {g : Nat} (h : r = some g) : Ending.returned (.iface 122 (.pointer (some (E g)))) = .returned (errV E r) := by subst h; rfl

theorem errV_none {E : Nat → Addr} {r : Option Nat} (h : r = none) : Ending.returned .nilIface = .returned (errV E r) := by subst h; rfl

theorem scaleE_many {s : List BI} (h : 32 < s.length) : scaleE s = some 2 := by unfold scaleE; rw [if_pos h]

theorem scaleE_frac {s : List BI} {k : Nat} {b : BI} (h : ¬ 32 < s.length) (hb : s[k]? = some b) (hv : vB b = false) : scaleE s = some 3 := by
  unfold scaleE
  rw [if_neg h, if_pos]
  rw [List.all_eq_false]
  exact ⟨b, List.mem_of_getElem? hb, by rw [hv]; simp⟩

theorem riN_stays {fs : List Rat} {k m : Nat} (h : riN fs k = false) (hm : k ≤ m) : riN fs m = false := by
  obtain ⟨d, rfl⟩ : ∃ d, m = k + d := ⟨m - k, by omega⟩
  clear hm
  induction d with
  | zero => exact h
  | succ d ih => show (riN fs (k + d) && _) = false; rw [ih]; rfl

theorem riN_at {fs : List Rat} {n : Nat} (h : riN fs n = true) {k : Nat} (hk : k < n) : fs.getD k 0 < fs.getD (k + 1) 0 := by
  induction n with
  | zero => omega
  | succ n ih =>
    have h' : (riN fs n && decide (fs.getD n 0 < fs.getD (n + 1) 0)) = true := h
    rw [Bool.and_eq_true, decide_eq_true_eq] at h'
    rcases Nat.lt_or_ge k n with hl | hl
    · exact ih h'.1 hl
    · obtain rfl : k = n := by omega
      exact h'.2

theorem getD_frm {gs : List (Rat × Rat)} {k : Nat} {x : Rat × Rat} (h : gs[k]? = some x) : ((gs.map bR).map frm).getD k 0 = x.1 := by
  rw [List.getD, List.getElem?_map, List.getElem?_map, h]
  exact frm_bR x

theorem riN_step {gs : List (Rat × Rat)} {k : Nat} {x y : Rat × Rat} (h : riN ((gs.map bR).map frm) k = true) (hx : gs[k]? = some x) (hy : gs[k + 1]? = some y) : riN ((gs.map bR).map frm) (k + 1) = decide (x.1 < y.1) := by
  show (riN _ k && _) = _
  rw [h, getD_frm hx, getD_frm hy]; rfl

theorem scaleE_rise {gs : List (Rat × Rat)} {k : Nat} (h : ¬ 32 < gs.length) (hk : k + 1 < gs.length) (hg : ∀ x ∈ gs, GoodB x) (hr : riN ((gs.map bR).map frm) (k + 1) = false) : scaleE (gs.map bR) = some 1 := by
  unfold scaleE
  rw [List.length_map, if_neg h, if_neg, if_pos]
  · exact riN_stays hr (by omega)
  · rw [Bool.not_eq_false, List.all_eq_true]
    intro x hx
    obtain ⟨y, hy, rfl⟩ := List.mem_map.1 hx
    obtain ⟨h1, h2⟩ := hg y hy
    show (validB y.1.num y.1.den && validB y.2.num y.2.den) = true
    rw [validB_good, validB_good, decide_eq_true h1, decide_eq_true h2]; rfl

theorem scaleE_ok {gs : List (Rat × Rat)} (h : ¬ 32 < gs.length) (hg : ∀ x ∈ gs, GoodB x) (hr : riN ((gs.map bR).map frm) (gs.length - 1) = true) : scaleE (gs.map bR) = if gs.length = 0 then some 1 else none := by
  unfold scaleE
  rw [List.length_map, if_neg h, if_neg, if_neg]
  · rw [hr]; simp
  · rw [Bool.not_eq_false, List.all_eq_true]
    intro x hx
    obtain ⟨y, hy, rfl⟩ := List.mem_map.1 hx
    obtain ⟨h1, h2⟩ := hg y hy
    show (validB y.1.num y.1.den && validB y.2.num y.2.den) = true
    rw [validB_good, validB_good, decide_eq_true h1, decide_eq_true h2]; rfl

/-- a scale that is one -/
theorem scaleE_none {s : List BI} (h : scaleE s = none) : ∃ gs : List (Rat × Rat), s = gs.map bR ∧ (∀ x ∈ gs, GoodB x) ∧ gs.length ≤ 32 ∧ 0 < gs.length ∧ ∀ (k : Nat) (x y : Rat × Rat), gs[k]? = some x → gs[k + 1]? = some y → x.1 < y.1 := by
  unfold scaleE at h
  split at h
  · cases h
  rename_i h1
  split at h
  · cases h
  rename_i h2
  split at h
  · cases h
  rename_i h3
  split at h
  · cases h
  rename_i h4
  obtain ⟨gs, rfl, hg⟩ := all_bR (l := s) (fun x hx => List.all_eq_true.1 (by simpa using h2) x hx)
  rw [List.length_map] at h1 h3 h4
  refine ⟨gs, rfl, hg, by omega, by omega, fun k x y hx hy => ?_⟩
  have hk : k + 1 < gs.length := (List.getElem?_eq_some_iff.1 hy).1
  have := riN_at (eq_true_of_ne_false h3) (k := k) (by omega)
  rw [getD_frm hx, getD_frm hy] at this
  exact this

theorem cmpS (p q : Rat) (c : Int) (w : World) (hp : Good p) (hq : Good q) (h : cmpQ p q = c) :
    Calls Tryd.prog 43 #[.agg #[.int .i64 p.num, .int .i64 p.den], .agg #[.int .i64 q.num, .int .i64 q.den]] w fun e w' => e = .returned (.int .i64 c) ∧ Below w.heap.size w w' := by
  subst h; exact cmp_any p q w hp hq

theorem cmp_lt {p q : Rat} (h : p < q) : cmpQ p q = -1 := by unfold cmpQ; rw [if_pos h]

theorem cmp_gt {p q : Rat} (h : q < p) : cmpQ p q = 1 := by unfold cmpQ; rw [if_neg (by rw [Rat.not_lt]; grind), if_pos h]

theorem cmp_eq (p : Rat) : cmpQ p p = 0 := by unfold cmpQ; rw [if_neg Rat.lt_irrefl, if_neg Rat.lt_irrefl]

theorem cmp_ge {p q : Rat} (h : ¬ p < q) : 0 ≤ cmpQ p q := by
  unfold cmpQ
  rw [if_neg h]
  split <;> omega

theorem valid_is (n d : Int) (b : Bool) (w : World) (h : validB n d = b) (n1 : -9223372036854775808 ≤ n) (n2 : n ≤ 9223372036854775807) (d1 : -9223372036854775808 ≤ d) (d2 : d ≤ 9223372036854775807) :
    Calls Tryd.prog 46 #[.agg #[.int .i64 n, .int .i64 d]] w fun e w' => e = .returned (.bool b) ∧ Below w.heap.size w w' := by
  subst h; exact fracValid_any n d w n1 n2 d1 d2

/-- one element's cells -/
theorem cells4 {w : World} {B : Nat} {A : Option Addr} {s : List BI} {k : Nat} {b : BI} (h : RowAt encR 4 w B A s) (hk : s[k]? = some b) : ∃ g off, A = some ⟨g, off, none⟩ ∧ g < B ∧
    w.cell? ⟨g, off + k * 4, none⟩ = some (.int .i64 b.1) ∧ w.cell? ⟨g, off + k * 4 + 1, none⟩ = some (.int .i64 b.2.1) ∧ w.cell? ⟨g, off + k * 4 + 2, none⟩ = some (.int .i64 b.2.2.1) ∧ w.cell? ⟨g, off + k * 4 + 3, none⟩ = some (.int .i64 b.2.2.2) := by
  obtain ⟨g, off, rfl, hg, hc⟩ := h k b hk
  exact ⟨g, off, rfl, hg, hc 0 _ rfl, hc 1 _ rfl, hc 2 _ rfl, hc 3 _ rfl⟩

set_option maxRecDepth 10000 in
set_option maxHeartbeats 4000000 in
theorem valid15_any (s : List BI) (A : Option Addr) (c : Nat) (E : Nat → Addr) (w : World) (hl : RowAt encR 4 w w.heap.size A s) (hm : s.length ≤ 9223372036854775807) (hI : ∀ b ∈ s, In4 b) (hE : Env LC E w) :
    Calls Tryd.prog 24 #[.slice A s.length c] w fun e w' => e = .returned (errV E (scaleE s)) ∧ Below w.heap.size w w' := by
  by_cases h32 : 32 < s.length
  · have hc' := hE.cell 2 (by decide)
    have HR := Lib.hid (errV_some (E := E) (scaleE_many h32))
    clear hE hI hl
    go_enter Tryd.func24, Tryd.ntmps24
    go_wp2_with fail
    go_ret
    exact ⟨HR.out, by (repeat' (first | with_reducible exact Below.refl _ _ | with_reducible assumption | with_reducible refine Below.drew ?_ | with_reducible refine below_drewN ?_ _ | with_reducible refine Below.setCell ?_ ?_ _ | with_reducible refine Below.alloc ?_ ?_ _ | omega | (simp; done) | (simp; omega)))⟩
  have HL := Lib.hid hl
  have HI := Lib.hid hI
  have HE := Lib.hid hE
  have H32 := Lib.hid h32
  have h32' : s.length ≤ 32 := by omega
  clear hl hI hE h32
  go_enter Tryd.func24, Tryd.ntmps24
  go_wp2_with fail
  go_loopw [12] (fun i wr => ∃ k : Nat, k ≤ s.length ∧ i = .int .i64 k ∧ Hid (∀ j b, j < k → s[j]? = some b → vB b = true) ∧ Below w.heap.size w wr) (fun i _ => s.length - (intOf i).toNat)
  case atStart => exact ⟨0, Nat.zero_le _, rfl, (fun j b h => by omega), Below.refl _ _⟩
  case round =>
    obtain ⟨k, hk, rfl, hv, hw0⟩ := hrel
    have z0 := hw0.size
    by_cases hlt : k < s.length
    · obtain ⟨⟨n1, d1, n2, d2⟩, hb⟩ : ∃ b, s[k]? = some b := ⟨s[k], List.getElem?_eq_getElem hlt⟩
      obtain ⟨g, off, rfl, hg, k0, k1, k2, k3⟩ := cells4 (HL.out.below hw0 (Nat.le_refl _)) hb
      obtain ⟨⟨a1, a2⟩, ⟨a3, a4⟩, ⟨a5, a6⟩, ⟨a7, a8⟩⟩ := HI.out _ (List.mem_of_getElem? hb)
      have k0 : wr.cell? ⟨g, off + k * 4, none⟩ = some (.int .i64 n1) := k0
      have k1 : wr.cell? ⟨g, off + k * 4 + 1, none⟩ = some (.int .i64 d1) := k1
      have k2 : wr.cell? ⟨g, off + k * 4 + 2, none⟩ = some (.int .i64 n2) := k2
      have k3 : wr.cell? ⟨g, off + k * 4 + 3, none⟩ = some (.int .i64 d2) := k3
      dsimp only at a1 a2 a3 a4 a5 a6 a7 a8
      have HB := Lib.hid hb
      clear hb
      cases hv1 : validB n1 d1
      · have HV := Lib.hid hv1
        clear hv1
        go_wp2_with fail
        refine (valid_is n1 d1 false _ HV.out (by omega) (by omega) (by omega) (by omega)).mono ?_
        rintro e w1 ⟨rfl, hb1⟩
        have hw1 : Below w.heap.size w w1 := stepH (by (repeat' (first | with_reducible exact Below.refl _ _ | with_reducible assumption | with_reducible refine Below.drew ?_ | with_reducible refine below_drewN ?_ _ | with_reducible refine Below.setCell ?_ ?_ _ | with_reducible refine Below.alloc ?_ ?_ _ | omega | (simp; done) | (simp; omega)))) hb1
        have B := keepH hb1 (g := wr.heap.size) (blk_new rfl)
        have z1 := hw1.size
        clear hb1 hw0 z0
        have cB := cellH B
        obtain ⟨lB, lB1, lB2⟩ := ltH B
        have hc' := (HE.out.below hw1).cell 3 (by decide)
        go_wp2_with fail
        go_ret
        exact ⟨errV_some (scaleE_frac H32.out HB.out (by unfold vB; rw [HV.out]; rfl)), by (repeat' (first | with_reducible exact Below.refl _ _ | with_reducible assumption | with_reducible refine Below.drew ?_ | with_reducible refine below_drewN ?_ _ | with_reducible refine Below.setCell ?_ ?_ _ | with_reducible refine Below.alloc ?_ ?_ _ | omega | (simp; done) | (simp; omega)))⟩
      · have HV := Lib.hid hv1
        clear hv1
        cases hv2 : validB n2 d2
        · have HV2 := Lib.hid hv2
          clear hv2
          go_wp2_with fail
          refine (valid_is n1 d1 true _ HV.out (by omega) (by omega) (by omega) (by omega)).mono ?_
          rintro e w2 ⟨rfl, hb2⟩
          have hw2 : Below w.heap.size w w2 := stepH (by (repeat' (first | with_reducible exact Below.refl _ _ | with_reducible assumption | with_reducible refine Below.drew ?_ | with_reducible refine below_drewN ?_ _ | with_reducible refine Below.setCell ?_ ?_ _ | with_reducible refine Below.alloc ?_ ?_ _ | omega | (simp; done) | (simp; omega)))) hb2
          have B := keepH hb2 (g := wr.heap.size) (blk_new rfl)
          have z2 := hw2.size
          clear hb2 hw0 z0
          have cB := cellH B
          obtain ⟨lB, lB1, lB2⟩ := ltH B
          go_wp2_with fail
          refine (valid_is n2 d2 false _ HV2.out (by omega) (by omega) (by omega) (by omega)).mono ?_
          rintro e w3 ⟨rfl, hb3⟩
          have hw3 : Below w.heap.size w w3 := stepH (by (repeat' (first | with_reducible exact Below.refl _ _ | with_reducible assumption | with_reducible refine Below.drew ?_ | with_reducible refine below_drewN ?_ _ | with_reducible refine Below.setCell ?_ ?_ _ | with_reducible refine Below.alloc ?_ ?_ _ | omega | (simp; done) | (simp; omega)))) hb3
          replace B := keepH hb3 B.out
          have z3 := hw3.size
          clear hb3 hw2 z2
          clear cB lB lB1 lB2
          have cB := cellH B
          obtain ⟨lB, lB1, lB2⟩ := ltH B
          have hc' := (HE.out.below hw3).cell 3 (by decide)
          go_wp2_with fail
          go_ret
          exact ⟨errV_some (scaleE_frac H32.out HB.out (by unfold vB; rw [HV2.out, Bool.and_false])), by (repeat' (first | with_reducible exact Below.refl _ _ | with_reducible assumption | with_reducible refine Below.drew ?_ | with_reducible refine below_drewN ?_ _ | with_reducible refine Below.setCell ?_ ?_ _ | with_reducible refine Below.alloc ?_ ?_ _ | omega | (simp; done) | (simp; omega)))⟩
        · have HV2 := Lib.hid hv2
          clear hv2
          go_wp2_with fail
          refine (valid_is n1 d1 true _ HV.out (by omega) (by omega) (by omega) (by omega)).mono ?_
          rintro e w4 ⟨rfl, hb4⟩
          have hw4 : Below w.heap.size w w4 := stepH (by (repeat' (first | with_reducible exact Below.refl _ _ | with_reducible assumption | with_reducible refine Below.drew ?_ | with_reducible refine below_drewN ?_ _ | with_reducible refine Below.setCell ?_ ?_ _ | with_reducible refine Below.alloc ?_ ?_ _ | omega | (simp; done) | (simp; omega)))) hb4
          have B := keepH hb4 (g := wr.heap.size) (blk_new rfl)
          have z4 := hw4.size
          clear hb4 hw0 z0
          have cB := cellH B
          obtain ⟨lB, lB1, lB2⟩ := ltH B
          go_wp2_with fail
          refine (valid_is n2 d2 true _ HV2.out (by omega) (by omega) (by omega) (by omega)).mono ?_
          rintro e w5 ⟨rfl, hb5⟩
          have hw5 : Below w.heap.size w w5 := stepH (by (repeat' (first | with_reducible exact Below.refl _ _ | with_reducible assumption | with_reducible refine Below.drew ?_ | with_reducible refine below_drewN ?_ _ | with_reducible refine Below.setCell ?_ ?_ _ | with_reducible refine Below.alloc ?_ ?_ _ | omega | (simp; done) | (simp; omega)))) hb5
          replace B := keepH hb5 B.out
          have z5 := hw5.size
          clear hb5 hw4 z4
          clear cB lB lB1 lB2
          have cB := cellH B
          obtain ⟨lB, lB1, lB2⟩ := ltH B
          go_wp2_with fail
          go_roundw
          case rel =>
            refine ⟨k + 1, by omega, by go_num, fun j b hj hb => ?_, by (repeat' (first | with_reducible exact Below.refl _ _ | with_reducible assumption | with_reducible refine Below.drew ?_ | with_reducible refine below_drewN ?_ _ | with_reducible refine Below.setCell ?_ ?_ _ | with_reducible refine Below.alloc ?_ ?_ _ | omega | (simp; done) | (simp; omega)))⟩
            rcases Nat.lt_or_ge j k with h | h
            · exact hv.out j b h hb
            · obtain rfl : j = k := by omega
              have hb2 := HB.out
              rw [hb] at hb2
              cases hb2
              show (validB _ _ && validB _ _) = true
              rw [HV.out, HV2.out]; rfl
          case measure => simp [intOf]; omega
    · obtain ⟨gs, hgs, hgood⟩ := all_bR (l := s) (fun x hx => by obtain ⟨j, hj, e⟩ := List.mem_iff_getElem.1 hx; exact hv.out j x (by omega) (by rw [← e]; exact List.getElem?_eq_getElem hj))
      have HG := Lib.hid hgood
      have hge : s.length ≤ k := by omega
      clear hv hlt hgood
      subst hgs
      rw [List.length_map] at *
      obtain ⟨wo, rfl⟩ : ∃ wo : World, wo = wr := ⟨_, rfl⟩
      have hdk : decide (k < gs.length) = false := decide_eq_false (by omega)
      go_wp2_with fail
      go_loopw [5] (fun i wr => ∃ k : Nat, (k = 0 ∨ k + 1 ≤ gs.length) ∧ i = .int .i64 (k + 1 : Int) ∧ Hid (riN ((gs.map bR).map frm) k = true) ∧ Below w.heap.size w wr) (fun i _ => gs.length - (intOf i).toNat)
      case atStart => exact ⟨0, .inl rfl, rfl, rfl, hw0⟩
      case round =>
        obtain ⟨k2, hk2, rfl, hri, hw1⟩ := hrel
        have z1 := hw1.size
        by_cases hlt : k2 + 1 < gs.length
        · obtain ⟨x0, hx0⟩ : ∃ x, gs[k2]? = some x := ⟨gs[k2], List.getElem?_eq_getElem (by omega)⟩
          obtain ⟨x1, hx1⟩ : ∃ x, gs[k2 + 1]? = some x := ⟨gs[k2 + 1], List.getElem?_eq_getElem hlt⟩
          obtain ⟨g, off, hA, hg, k0, k1, _, _⟩ := cells4 (HL.out.below hw1 (Nat.le_refl _)) (show (gs.map bR)[k2]? = some (bR x0) by rw [List.getElem?_map, hx0]; rfl)
          obtain ⟨g', off', hA', _, j0, j1, _, _⟩ := cells4 (HL.out.below hw1 (Nat.le_refl _)) (show (gs.map bR)[k2 + 1]? = some (bR x1) by rw [List.getElem?_map, hx1]; rfl)
          subst hA
          injection hA' with hA'
          injection hA' with e1 e2
          subst e1 e2
          have k0 : wr.cell? ⟨g, off + k2 * 4, none⟩ = some (.int .i64 x0.1.num) := k0
          have k1 : wr.cell? ⟨g, off + k2 * 4 + 1, none⟩ = some (.int .i64 x0.1.den) := k1
          have j0 : wr.cell? ⟨g, off + (k2 + 1) * 4, none⟩ = some (.int .i64 x1.1.num) := j0
          have j1 : wr.cell? ⟨g, off + (k2 + 1) * 4 + 1, none⟩ = some (.int .i64 x1.1.den) := j1
          have G0 := Lib.hid (HG.out x0 (List.mem_of_getElem? hx0)).1
          have G1 := Lib.hid (HG.out x1 (List.mem_of_getElem? hx1)).1
          have HST := Lib.hid (riN_step hri.out hx0 hx1)
          have s3 : (0 : Int) ≤ (k2 : Int) + 1 := by omega
          have s4 : (k2 : Int) + 1 < (gs.length : Int) := by omega
          have s5 : ((k2 : Int) + 1).toNat = k2 + 1 := by omega
          have s6 : (k2 : Int) < (gs.length : Int) := by omega
          have s2 : IntKind.i64.wrap ((k2 : Int)) = (k2 : Int) := IntWalk.i64_in _ (by omega)
          have s1 : IntKind.i64.wrap ((k2 : Int) + 1 - 1) = (k2 : Int) := by rw [show (k2 : Int) + 1 - 1 = k2 by omega]; exact s2
          clear hx0 hx1
          obtain ⟨cc, hcc⟩ : ∃ cc, cmpQ x0.1 x1.1 = cc := ⟨_, rfl⟩
          have HCC := Lib.hid hcc
          have hor : (x0.1 < x1.1 ∧ cc = -1) ∨ (¬ x0.1 < x1.1 ∧ 0 ≤ cc) := by
            by_cases h : x0.1 < x1.1
            · exact .inl ⟨h, by rw [← hcc]; exact cmp_lt h⟩
            · exact .inr ⟨h, by rw [← hcc]; exact cmp_ge h⟩
          clear hcc
          go_wp2_with fail
          go_region_held3 (fun w' => w'.cell? ⟨g, off + k2 * 4, none⟩ = some (.int .i64 x0.1.num) ∧ w'.cell? ⟨g, off + k2 * 4 + 1, none⟩ = some (.int .i64 x0.1.den) ∧ w'.cell? ⟨g, off + (k2 + 1) * 4, none⟩ = some (.int .i64 x1.1.num) ∧ w'.cell? ⟨g, off + (k2 + 1) * 4 + 1, none⟩ = some (.int .i64 x1.1.den)) (first | exact ⟨k0, k1, j0, j1⟩ | go_keep)
            (first | (go_at_call 43; refine (cmpS _ _ cc _ G0.out G1.out HCC.out).mono ?_; rintro e w9 ⟨rfl, hb9⟩; have hw9 : Below w.heap.size w w9 := stepH (by (repeat' (first | with_reducible exact Below.refl _ _ | with_reducible assumption | with_reducible refine Below.drew ?_ | with_reducible refine below_drewN ?_ _ | with_reducible refine Below.setCell ?_ ?_ _ | with_reducible refine Below.alloc ?_ ?_ _ | omega | (simp; done) | (simp; omega)))) hb9; have k0 := (hb9.cell (p := ⟨g, off + k2 * 4, none⟩) (by show g < _; simp; omega)).trans k0; have k1 := (hb9.cell (p := ⟨g, off + k2 * 4 + 1, none⟩) (by show g < _; simp; omega)).trans k1; have j0 := (hb9.cell (p := ⟨g, off + (k2 + 1) * 4, none⟩) (by show g < _; simp; omega)).trans j0; have j1 := (hb9.cell (p := ⟨g, off + (k2 + 1) * 4 + 1, none⟩) (by show g < _; simp; omega)).trans j1))
          rcases hor with ⟨h, rfl⟩ | ⟨h, h2⟩
          · have HR2 : Hid (riN ((gs.map bR).map frm) (k2 + 1) = true) := by show _ = _; rw [HST.out]; exact decide_eq_true h
            clear h
            go_wp2_with fail
            go_roundw
            case rel => exact ⟨k2 + 1, by omega, by go_num, HR2, by (repeat' (first | with_reducible exact Below.refl _ _ | with_reducible assumption | with_reducible refine Below.drew ?_ | with_reducible refine below_drewN ?_ _ | with_reducible refine Below.setCell ?_ ?_ _ | with_reducible refine Below.alloc ?_ ?_ _ | omega | (simp; done) | (simp; omega)))⟩
            case measure => simp [intOf]; omega
          · have HR2 : Hid (riN ((gs.map bR).map frm) (k2 + 1) = false) := by show _ = _; rw [HST.out]; exact decide_eq_false h
            clear h
            have hc' := (HE.out.below hw9).cell 1 (by decide)
            go_wp2_with fail
            go_ret
            exact ⟨errV_some (scaleE_rise (by omega) hlt HG.out HR2.out), by (repeat' (first | with_reducible exact Below.refl _ _ | with_reducible assumption | with_reducible refine Below.drew ?_ | with_reducible refine below_drewN ?_ _ | with_reducible refine Below.setCell ?_ ?_ _ | with_reducible refine Below.alloc ?_ ?_ _ | omega | (simp; done) | (simp; omega)))⟩
        · have hkk : k2 = gs.length - 1 := by omega
          have HF := Lib.hid (scaleE_ok (by omega) HG.out (by rw [← hkk]; exact hri.out))
          by_cases h0 : gs.length = 0
          · have HR := Lib.hid (errV_some (E := E) (r := scaleE (gs.map bR)) (by rw [HF.out, if_pos h0]))
            have hb0 : ((gs.length : Int) == 0) = true := by simp [h0]
            have hc' := (HE.out.below hw1).cell 1 (by decide)
            clear h0 hkk
            go_wp2_with fail
            go_ret
            exact ⟨HR.out, by (repeat' (first | with_reducible exact Below.refl _ _ | with_reducible assumption | with_reducible refine Below.drew ?_ | with_reducible refine below_drewN ?_ _ | with_reducible refine Below.setCell ?_ ?_ _ | with_reducible refine Below.alloc ?_ ?_ _ | omega | (simp; done) | (simp; omega)))⟩
          · have HR := Lib.hid (errV_none (E := E) (r := scaleE (gs.map bR)) (by rw [HF.out, if_neg h0]))
            have hb0 : ((gs.length : Int) == 0) = false := by simpa using h0
            clear h0 hkk
            go_wp2_with fail
            go_ret
            exact ⟨HR.out, by (repeat' (first | with_reducible exact Below.refl _ _ | with_reducible assumption | with_reducible refine Below.drew ?_ | with_reducible refine below_drewN ?_ _ | with_reducible refine Below.setCell ?_ ?_ _ | with_reducible refine Below.alloc ?_ ?_ _ | omega | (simp; done) | (simp; omega)))⟩

end Go.Proofs.YtmankldedhgdiaaDoor
