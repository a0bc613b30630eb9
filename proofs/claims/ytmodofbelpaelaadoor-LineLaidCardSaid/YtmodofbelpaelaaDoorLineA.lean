/- Timelines: pieces in memory; at, At: walks. -/
import Derived.Test.YtmodofbelpaelaaDoorSums
import Derived.Test.YtmodofbelpaelaaDoorLineL
import Derived.Deep.RegionHeld3
namespace Go.Proofs.YtmodofbelpaelaaDoor
open Go.RowKit

/-- the end of days -/
abbrev MD : Int := 3652059

def encP (p : Pc Int) : List Value := [.int .i64 p.f, .int .i64 p.t, .int .i64 p.v]
theorem encP_len (p : Pc Int) : (encP p).length = 3 := rfl

theorem cells3 {w : World} {B k : Nat} {A : Option Addr} {l : List (Pc Int)} {p : Pc Int} (h : RowAt encP 3 w B A l) (hp : l[k]? = some p) : ∃ g off, A = some ⟨g, off, none⟩ ∧ g < B ∧
    w.cell? ⟨g, off + k * 3, none⟩ = some (.int .i64 p.f) ∧ w.cell? ⟨g, off + k * 3 + 1, none⟩ = some (.int .i64 p.t) ∧ w.cell? ⟨g, off + k * 3 + 2, none⟩ = some (.int .i64 p.v) := by
  obtain ⟨g, off, rfl, hg, hc⟩ := h k p hp
  exact ⟨g, off, rfl, hg, hc 0 _ rfl, hc 1 _ rfl, hc 2 _ rfl⟩

theorem cmp6_le (f t v n : Int) (w : World) (h : t ≤ n) : Calls Tryd.prog 139 #[.agg #[.int .i64 f, .int .i64 t, .int .i64 v], .int .i64 n] w fun e w' => e = .returned (.int .i64 (-1)) ∧ Below w.heap.size w w' := by
  have hd : decide (t ≤ n) = true := decide_eq_true h
  go_enter Tryd.func139, Tryd.ntmps139
  go_wp2_with fail
  go_ret
  exact ⟨rfl, by (repeat' (first | with_reducible exact Below.refl _ _ | with_reducible assumption | with_reducible refine Below.drew ?_ | with_reducible refine below_drewN ?_ _ | with_reducible refine Below.setCell ?_ ?_ _ | with_reducible refine Below.alloc ?_ ?_ _ | omega | (simp; done) | (simp; omega)))⟩
theorem cmp6_gt (f t v n : Int) (w : World) (h : n < t) : Calls Tryd.prog 139 #[.agg #[.int .i64 f, .int .i64 t, .int .i64 v], .int .i64 n] w fun e w' => e = .returned (.int .i64 1) ∧ Below w.heap.size w w' := by
  have hd : decide (t ≤ n) = false := decide_eq_false (by omega)
  go_enter Tryd.func139, Tryd.ntmps139
  go_wp2_with fail
  go_ret
  exact ⟨rfl, by (repeat' (first | with_reducible exact Below.refl _ _ | with_reducible assumption | with_reducible refine Below.drew ?_ | with_reducible refine below_drewN ?_ _ | with_reducible refine Below.setCell ?_ ?_ _ | with_reducible refine Below.alloc ?_ ?_ _ | omega | (simp; done) | (simp; omega)))⟩

/-- the pieces ahead of the i-th end by the day n, the others behind it -/
def IdxAt (l : List (Pc Int)) (n : Int) (i : Nat) : Prop := (∀ (k : Nat) (p : Pc Int), l[k]? = some p → k < i → p.t ≤ n) ∧ (∀ (k : Nat) (p : Pc Int), l[k]? = some p → i ≤ k → n < p.t)

theorem valL_idx {b n : Int} {i : Nat} {l : List (Pc Int)} (h : Rise b l) (hi : IdxAt l n i) : valL l n = match l[i]? with | some p => (if p.f ≤ n then some p.v else none) | none => none := by
  induction l generalizing b i with
  | nil => rfl
  | cons p r ih =>
    obtain ⟨h1, h2, h3⟩ := h
    cases i with
    | zero =>
      have ht := hi.2 0 p rfl (Nat.le_refl _)
      rw [valL, List.getElem?_cons_zero]
      by_cases hp : p.f ≤ n
      · rw [if_pos ⟨hp, ht⟩]; simp only [if_pos hp]
      · rw [if_neg (fun hh => hp hh.1), Rise.none h3 (by omega)]; simp only [if_neg hp]
    | succ i =>
      have ht := hi.1 0 p rfl (Nat.succ_pos _)
      rw [valL, if_neg (by omega), List.getElem?_cons_succ]
      exact ih h3 ⟨fun k q hk hlt => hi.1 (k + 1) q (by simpa using hk) (by omega), fun k q hk hle => hi.2 (k + 1) q (by simpa using hk) (by omega)⟩

theorem Rise.ends {b : Int} {l : List (Pc Int)} (h : Rise b l) : ∀ (i j : Nat) (p q : Pc Int), i ≤ j → l[i]? = some p → l[j]? = some q → p.t ≤ q.t := by
  induction l generalizing b with
  | nil => intro i j p q _ hp; simp at hp
  | cons x r ih =>
    obtain ⟨h1, h2, h3⟩ := h
    intro i j p q hij hp hq
    cases i with
    | zero =>
      cases hp
      cases j with
      | zero => cases hq; exact Int.le_refl _
      | succ j =>
        have := Rise.mem h3 (List.mem_of_getElem? (by simpa using hq : r[j]? = some q))
        omega
    | succ i =>
      cases j with
      | zero => omega
      | succ j => exact ih h3 i j p q (by omega) (by simpa using hp) (by simpa using hq)

set_option maxRecDepth 10000 in
set_option maxHeartbeats 4000000 in
theorem search_any (l : List (Pc Int)) (A : Option Addr) (c : Nat) (n : Int) (w : World) (hl : RowAt encP 3 w w.heap.size A l) (hm : l.length ≤ 1000000) (hmono : ∀ (i j : Nat) (p q : Pc Int), i ≤ j → l[i]? = some p → l[j]? = some q → p.t ≤ q.t) :
    Calls Tryd.prog 138 #[.slice A l.length c, .int .i64 n, .func (.func 139) #[] #[]] w fun e w' => (∃ i : Nat, e = .returned (.tuple #[.int .i64 i, .bool false]) ∧ i ≤ l.length ∧ IdxAt l n i) ∧ Below w.heap.size w w' := by
  have HL := Lib.hid hl
  have HM := Lib.hid hmono
  clear hl hmono
  go_enter Tryd.func138, Tryd.ntmps138
  go_wp2_with fail
  go_loopw [9, 10] (fun a b wr => ∃ lo hi : Nat, lo ≤ hi ∧ hi ≤ l.length ∧ a = .int .i64 lo ∧ b = .int .i64 hi ∧ Hid ((∀ (k : Nat) (p : Pc Int), l[k]? = some p → k < lo → p.t ≤ n) ∧ (∀ (k : Nat) (p : Pc Int), l[k]? = some p → hi ≤ k → n < p.t)) ∧ Below w.heap.size w wr) (fun a b _ => (intOf b).toNat - (intOf a).toNat)
  case atStart => exact ⟨0, l.length, Nat.zero_le _, Nat.le_refl _, rfl, rfl, Lib.hid ⟨fun k p _ h => by omega, fun k p h h' => by have := (List.getElem?_eq_some_iff.1 h).1; omega⟩, Below.refl _ _⟩
  case round =>
    obtain ⟨lo, hi, hlh, hhl, rfl, rfl, H, hw0⟩ := hrel
    have z0 := hw0.size
    by_cases hlt : lo < hi
    · obtain ⟨p, hp⟩ : ∃ p, l[(lo + hi) / 2]? = some p := ⟨l[(lo + hi) / 2]'(by omega), List.getElem?_eq_getElem _⟩
      obtain ⟨g, off, rfl, hg, k0, k1, k2⟩ := cells3 (HL.out.below hw0 (Nat.le_refl _)) hp
      have HP := Lib.hid hp
      clear hp
      by_cases hyx : p.t ≤ n
      · have HY := Lib.hid hyx
        clear hyx
        go_wp2_with fail
        refine (cmp6_le _ _ _ _ _ HY.out).mono ?_
        rintro e w1 ⟨rfl, hb1⟩
        have hw1 := stepH hw0 hb1
        clear k0 k1 k2 hb1
        go_wp2_with fail
        go_roundw
        case rel => exact ⟨(lo + hi) / 2 + 1, hi, by omega, hhl, by go_num, rfl, Lib.hid ⟨fun k q hk hlt => Int.le_trans (HM.out k ((lo + hi) / 2) q p (by omega) hk HP.out) HY.out, H.out.2⟩, hw1⟩
        case measure => simp [intOf]; omega
      · have HY := Lib.hid (Int.not_le.1 hyx)
        clear hyx
        go_wp2_with fail
        refine (cmp6_gt _ _ _ _ _ HY.out).mono ?_
        rintro e w1 ⟨rfl, hb1⟩
        have hw1 := stepH hw0 hb1
        clear k0 k1 k2 hb1
        go_wp2_with fail
        go_roundw
        case rel => exact ⟨lo, (lo + hi) / 2, by omega, by omega, rfl, by go_num, Lib.hid ⟨H.out.1, fun k q hk hle => Int.lt_of_lt_of_le HY.out (HM.out ((lo + hi) / 2) k p q hle HP.out hk)⟩, hw1⟩
        case measure => simp [intOf]; omega
    · obtain rfl : hi = lo := by omega
      by_cases hn : hi < l.length
      · obtain ⟨p, hp⟩ : ∃ p, l[hi]? = some p := ⟨l[hi]'(by omega), List.getElem?_eq_getElem _⟩
        obtain ⟨g, off, rfl, hg, k0, k1, k2⟩ := cells3 (HL.out.below hw0 (Nat.le_refl _)) hp
        have HY : Hid (n < p.t) := H.out.2 hi p hp (Nat.le_refl _)
        clear hp
        go_wp2_with fail
        refine (cmp6_gt _ _ _ _ _ HY.out).mono ?_
        rintro e w1 ⟨rfl, hb1⟩
        have hw1 := stepH hw0 hb1
        go_wp2_with fail
        go_ret2
        exact ⟨⟨hi, rfl, hhl, H.out⟩, hw1⟩
      · go_wp2_with fail
        go_ret2
        exact ⟨⟨hi, rfl, hhl, H.out⟩, hw0⟩

/-- what at answers -/
def AtIs (l : List (Pc Int)) (n : Int) (i : Nat) (b : Bool) : Prop := (b = true ∧ ∃ p, l[i]? = some p ∧ valL l n = some p.v) ∨ (b = false ∧ valL l n = none)

set_option maxRecDepth 10000 in
set_option maxHeartbeats 4000000 in
theorem at6_any (l : List (Pc Int)) (A : Option Addr) (c : Nat) (n : Int) (w : World) (hl : RowAt encP 3 w w.heap.size A l) (hm : l.length ≤ 1000000) (b : Int) (hr : Rise b l) :
    Calls Tryd.prog 111 #[.agg #[.slice A l.length c], .int .i64 n] w fun e w' => (∃ (i : Nat) (b : Bool), e = .returned (.tuple #[.int .i64 i, .bool b]) ∧ AtIs l n i b) ∧ Below w.heap.size w w' := by
  have HL := Lib.hid hl
  have HR := Lib.hid hr
  clear hl hr
  go_enter Tryd.func111, Tryd.ntmps111
  go_wp2_with fail
  refine (search_any l A c n _ ((HL.out.below (by (repeat' (first | with_reducible exact Below.refl _ _ | with_reducible assumption | with_reducible refine Below.drew ?_ | with_reducible refine below_drewN ?_ _ | with_reducible refine Below.setCell ?_ ?_ _ | with_reducible refine Below.alloc ?_ ?_ _ | omega | (simp; done) | (simp; omega)))) (Nat.le_refl _)).more (by simp)) hm HR.out.ends).mono ?_
  rintro e w1 ⟨⟨i, rfl, hi, hidx⟩, hb1⟩
  have hw1 : Below w.heap.size w w1 := stepH (by (repeat' (first | with_reducible exact Below.refl _ _ | with_reducible assumption | with_reducible refine Below.drew ?_ | with_reducible refine below_drewN ?_ _ | with_reducible refine Below.setCell ?_ ?_ _ | with_reducible refine Below.alloc ?_ ?_ _ | omega | (simp; done) | (simp; omega)))) hb1
  have S := keepH hb1 (g := w.heap.size) (blk_new rfl)
  have HI := Lib.hid hidx
  have cS := cellH S
  clear hb1 hidx
  by_cases hlt : i < l.length
  · obtain ⟨p, hp⟩ : ∃ p, l[i]? = some p := ⟨l[i]'hlt, List.getElem?_eq_getElem _⟩
    obtain ⟨g, off, rfl, hg, k0, k1, k2⟩ := cells3 (HL.out.below hw1 (Nat.le_refl _)) hp
    have HV := Lib.hid (valL_idx HR.out HI.out)
    have HP := Lib.hid hp
    clear hp
    by_cases hf : p.f ≤ n
    · have HF := Lib.hid hf
      have hd : decide (p.f ≤ n) = true := decide_eq_true hf
      clear hf
      go_wp2_with fail
      go_quiet (fail)
      go_wp2_with fail
      go_ret2
      exact ⟨⟨i, true, rfl, .inl ⟨rfl, p, HP.out, by rw [HV.out, HP.out]; exact if_pos HF.out⟩⟩, by (repeat' (first | with_reducible exact Below.refl _ _ | with_reducible assumption | with_reducible refine Below.drew ?_ | with_reducible refine below_drewN ?_ _ | with_reducible refine Below.setCell ?_ ?_ _ | with_reducible refine Below.alloc ?_ ?_ _ | omega | (simp; done) | (simp; omega)))⟩
    · have HF := Lib.hid hf
      have hd : decide (p.f ≤ n) = false := decide_eq_false hf
      clear hf
      go_wp2_with fail
      go_quiet (fail)
      go_wp2_with fail
      go_ret2
      exact ⟨⟨i, false, rfl, .inr ⟨rfl, by rw [HV.out, HP.out]; exact if_neg (by have := HF.out; omega)⟩⟩, by (repeat' (first | with_reducible exact Below.refl _ _ | with_reducible assumption | with_reducible refine Below.drew ?_ | with_reducible refine below_drewN ?_ _ | with_reducible refine Below.setCell ?_ ?_ _ | with_reducible refine Below.alloc ?_ ?_ _ | omega | (simp; done) | (simp; omega)))⟩
  · have HV := Lib.hid (valL_idx HR.out HI.out)
    have HN : Hid (l[i]? = none) := List.getElem?_eq_none (Nat.le_of_not_lt hlt)
    have hd : decide (i < l.length) = false := decide_eq_false hlt
    have hd2 : decide ((i : Int) < (l.length : Int)) = false := decide_eq_false (by omega)
    go_wp2_with fail
    go_quiet (fail)
    go_wp2_with fail
    go_ret2
    exact ⟨⟨i, false, rfl, .inr ⟨rfl, by rw [HV.out, HN.out]⟩⟩, by (repeat' (first | with_reducible exact Below.refl _ _ | with_reducible assumption | with_reducible refine Below.drew ?_ | with_reducible refine below_drewN ?_ _ | with_reducible refine Below.setCell ?_ ?_ _ | with_reducible refine Below.alloc ?_ ?_ _ | omega | (simp; done) | (simp; omega)))⟩

/-- the value of a day as At tells it -/
def vN (o : Option Int) : Int := o.getD 0
def vB6 (o : Option Int) : Bool := o.isSome

set_option maxRecDepth 10000 in
set_option maxHeartbeats 4000000 in
theorem At6_any (l : List (Pc Int)) (A : Option Addr) (c : Nat) (n : Int) (w : World) (hl : RowAt encP 3 w w.heap.size A l) (hm : l.length ≤ 1000000) (b : Int) (hr : Rise b l) :
    Calls Tryd.prog 71 #[.agg #[.slice A l.length c], .int .i64 n] w fun e w' => e = .returned (.tuple #[.int .i64 (vN (valL l n)), .bool (vB6 (valL l n))]) ∧ Below w.heap.size w w' := by
  have HL := Lib.hid hl
  have HR := Lib.hid hr
  clear hl hr
  go_enter Tryd.func71, Tryd.ntmps71
  go_wp2_with fail
  refine (at6_any l A c n _ ((HL.out.below (by (repeat' (first | with_reducible exact Below.refl _ _ | with_reducible assumption | with_reducible refine Below.drew ?_ | with_reducible refine below_drewN ?_ _ | with_reducible refine Below.setCell ?_ ?_ _ | with_reducible refine Below.alloc ?_ ?_ _ | omega | (simp; done) | (simp; omega)))) (Nat.le_refl _)).more (by simp)) hm b HR.out).mono ?_
  rintro e w1 ⟨⟨i, q, rfl, hat⟩, hb1⟩
  have hw1 : Below w.heap.size w w1 := stepH (by (repeat' (first | with_reducible exact Below.refl _ _ | with_reducible assumption | with_reducible refine Below.drew ?_ | with_reducible refine below_drewN ?_ _ | with_reducible refine Below.setCell ?_ ?_ _ | with_reducible refine Below.alloc ?_ ?_ _ | omega | (simp; done) | (simp; omega)))) hb1
  have S := keepH hb1 (g := w.heap.size) (blk_new rfl)
  have cS := cellH S
  clear hb1
  rcases hat with ⟨rfl, p, hp, hv⟩ | ⟨rfl, hv⟩
  · obtain ⟨g, off, rfl, hg, k0, k1, k2⟩ := cells3 (HL.out.below hw1 (Nat.le_refl _)) hp
    have hlt : i < l.length := (List.getElem?_eq_some_iff.1 hp).1
    have hlt2 : (i : Int) < (l.length : Int) := by omega
    have HV := Lib.hid hv
    clear hv hp
    go_wp2_with fail
    go_ret2
    exact ⟨by rw [HV.out]; rfl, by (repeat' (first | with_reducible exact Below.refl _ _ | with_reducible assumption | with_reducible refine Below.drew ?_ | with_reducible refine below_drewN ?_ _ | with_reducible refine Below.setCell ?_ ?_ _ | with_reducible refine Below.alloc ?_ ?_ _ | omega | (simp; done) | (simp; omega)))⟩
  · have HV := Lib.hid hv
    clear hv
    go_wp2_with fail
    go_ret2
    exact ⟨by rw [HV.out]; rfl, by (repeat' (first | with_reducible exact Below.refl _ _ | with_reducible assumption | with_reducible refine Below.drew ?_ | with_reducible refine below_drewN ?_ _ | with_reducible refine Below.setCell ?_ ?_ _ | with_reducible refine Below.alloc ?_ ?_ _ | omega | (simp; done) | (simp; omega)))⟩

end Go.Proofs.YtmodofbelpaelaaDoor
