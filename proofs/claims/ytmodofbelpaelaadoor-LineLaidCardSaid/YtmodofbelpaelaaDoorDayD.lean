/- Sets of days: Len, Next, Has, the law's SameSpans: walks. -/
import Derived.Test.YtmodofbelpaelaaDoorDayC
import Derived.Deep.RegionHeld3
namespace Go.Proofs.YtmodofbelpaelaaDoor
open Go.RowKit

/-- how many days -/
def lenS : List (Pc Unit) → Int
  | [] => 0
  | p :: r => p.t - p.f + lenS r
theorem lenS_snoc (l : List (Pc Unit)) (p : Pc Unit) : lenS (l ++ [p]) = lenS l + (p.t - p.f) := by
  induction l with
  | nil => simp [lenS]
  | cons q r ih => rw [List.cons_append, lenS, lenS, ih]; omega
theorem lenS_bounds {b M : Int} {l : List (Pc Unit)} (h : Rise b l) (hM : UpTo M l) (hb : b ≤ M) : 0 ≤ lenS l ∧ lenS l ≤ M - b := by
  induction l generalizing b with
  | nil => exact ⟨Int.le_refl _, by simp [lenS]; omega⟩
  | cons p r ih =>
    obtain ⟨h1, h2, h3⟩ := h
    have hp := hM p (List.mem_cons_self ..)
    have := ih h3 (fun x hx => hM x (List.mem_cons_of_mem _ hx)) hp
    rw [lenS]
    omega
theorem Rise.take {α : Type} {b : Int} {l : List (Pc α)} (h : Rise b l) (k : Nat) : Rise b (l.take k) := by
  induction l generalizing b k with
  | nil => simpa using h
  | cons p r ih =>
    cases k with
    | zero => exact trivial
    | succ k => exact ⟨h.1, h.2.1, ih h.2.2 k⟩
theorem UpTo.take {α : Type} {M : Int} {l : List (Pc α)} (h : UpTo M l) (k : Nat) : UpTo M (l.take k) := fun p hp => h p (List.mem_of_mem_take hp)

/-- the least day from n on -/
def nextS : List (Pc Unit) → Int → Option Int
  | [], _ => none
  | p :: r, n => if n < p.t then some (max n p.f) else nextS r n
/-- a day is in one of the spans -/
def hasB : List (Pc Unit) → Int → Bool
  | [], _ => false
  | p :: r, n => (decide (p.f ≤ n) && decide (n < p.t)) || hasB r n
theorem hasB_iff {l : List (Pc Unit)} {n : Int} : hasB l n = true ↔ hasD l n := by
  induction l with
  | nil => exact ⟨fun h => (by cases h), fun h => absurd h hasD_nil⟩
  | cons p r ih => rw [hasB, hasD_cons, Bool.or_eq_true, ih]; simp

/-- a set in memory -/
structure SetAt (w : World) (v : Value) (r : List (Pc Unit)) : Prop where
  at_ : ∃ A c, v = .agg #[.slice A r.length c] ∧ RowAt encU 2 w w.heap.size A r ∧ (A = none → c = 0)

set_option maxRecDepth 10000 in
set_option maxHeartbeats 4000000 in
theorem lenS_any (r : List (Pc Unit)) (A : Option Addr) (c : Nat) (w : World) (hl : RowAt encU 2 w w.heap.size A r) (hm : r.length ≤ 1000000) (hc : Canon MD r) :
    Calls Tryd.prog 92 #[.agg #[.slice A r.length c]] w fun e w' => e = .returned (.int .i64 (lenS r)) ∧ Below w.heap.size w w' := by
  have HL := Lib.hid hl
  have HB := Lib.hid (fun k => lenS_bounds (hc.rise.take k) (hc.upTo.take k) (by decide))
  clear hl hc
  go_enter Tryd.func92, Tryd.ntmps92
  go_wp2_with fail
  go_loopw [3, 9] (fun v i wr => ∃ k : Nat, k ≤ r.length ∧ v = .int .i64 (lenS (r.take k)) ∧ i = .int .i64 k ∧ Below w.heap.size w wr) (fun _ i _ => r.length - (intOf i).toNat)
  case atStart => exact ⟨0, Nat.zero_le _, rfl, rfl, by (repeat' (first | with_reducible exact Below.refl _ _ | with_reducible assumption | with_reducible refine Below.drew ?_ | with_reducible refine below_drewN ?_ _ | with_reducible refine Below.setCell ?_ ?_ _ | with_reducible refine Below.alloc ?_ ?_ _ | omega | (simp; done) | (simp; omega)))⟩
  case round =>
    obtain ⟨k, hk, rfl, rfl, hwr⟩ := hrel
    have b0 := HB.out k
    have z0 := hwr.size
    dsimp only [MD] at b0
    by_cases hlt : k < r.length
    · obtain ⟨p, hp⟩ : ∃ p, r[k]? = some p := ⟨r[k], List.getElem?_eq_getElem hlt⟩
      obtain ⟨g, off, rfl, hg, j0, j1⟩ := cells2 (HL.out.below hwr (Nat.le_refl _)) hp
      have b1 := HB.out (k + 1)
      dsimp only [MD] at b1
      have hs : lenS (r.take (k + 1)) = lenS (r.take k) + (p.t - p.f) := by rw [take_snoc hp, lenS_snoc]
      have hlt2 : (k : Int) < (r.length : Int) := by omega
      have hpv : -10000000 ≤ p.t - p.f ∧ p.t - p.f ≤ 10000000 := by omega
      have HS := Lib.hid hs
      have f1 : IntKind.i64.wrap (p.t - p.f) = p.t - p.f := by rw [IntKind.wrap_i64]; omega
      have f2 : IntKind.i64.wrap (lenS (r.take k) + (p.t - p.f)) = lenS (r.take k) + (p.t - p.f) := by rw [IntKind.wrap_i64]; omega
      clear hp hs
      go_wp2_with fail
      go_roundw
      case rel => exact ⟨k + 1, by omega, by rw [HS.out], by go_num, by (repeat' (first | with_reducible exact Below.refl _ _ | with_reducible assumption | with_reducible refine Below.drew ?_ | with_reducible refine below_drewN ?_ _ | with_reducible refine Below.setCell ?_ ?_ _ | with_reducible refine Below.alloc ?_ ?_ _ | omega | (simp; done) | (simp; omega)))⟩
      case measure => simp [intOf]; omega
    · obtain rfl : k = r.length := by omega
      rw [List.take_length]
      go_wp2_with fail
      go_ret
      exact ⟨rfl, hwr⟩

/-- what Next tells -/
def nxV (o : Option Int) : Int := o.getD 0

theorem nextS_drop {l : List (Pc Unit)} {n : Int} {k : Nat} {p : Pc Unit} (hp : l[k]? = some p) : nextS (l.drop k) n = if n < p.t then some (max n p.f) else nextS (l.drop (k + 1)) n := by
  rw [drop_cons hp]; rfl
theorem hasB_drop {l : List (Pc Unit)} {n : Int} {k : Nat} {p : Pc Unit} (hp : l[k]? = some p) : hasB (l.drop k) n = ((decide (p.f ≤ n) && decide (n < p.t)) || hasB (l.drop (k + 1)) n) := by
  rw [drop_cons hp]; rfl

set_option maxRecDepth 10000 in
set_option maxHeartbeats 4000000 in
theorem nextS_any (r : List (Pc Unit)) (A : Option Addr) (c : Nat) (n : Int) (w : World) (hl : RowAt encU 2 w w.heap.size A r) (hm : r.length ≤ 1000000) :
    Calls Tryd.prog 91 #[.agg #[.slice A r.length c], .int .i64 n] w fun e w' => e = .returned (.tuple #[.int .i64 (nxV (nextS r n)), .bool (nextS r n).isSome]) ∧ Below w.heap.size w w' := by
  have HL := Lib.hid hl
  clear hl
  go_enter Tryd.func91, Tryd.ntmps91
  go_wp2_with fail
  go_loopw [11] (fun i wr => ∃ k : Nat, k ≤ r.length ∧ Hid (nextS (r.drop k) n = nextS r n) ∧ i = .int .i64 k ∧ Below w.heap.size w wr) (fun i _ => r.length - (intOf i).toNat)
  case atStart => exact ⟨0, Nat.zero_le _, rfl, rfl, by (repeat' (first | with_reducible exact Below.refl _ _ | with_reducible assumption | with_reducible refine Below.drew ?_ | with_reducible refine below_drewN ?_ _ | with_reducible refine Below.setCell ?_ ?_ _ | with_reducible refine Below.alloc ?_ ?_ _ | omega | (simp; done) | (simp; omega)))⟩
  case round =>
    obtain ⟨k, hk, hj, rfl, hwr⟩ := hrel
    have z0 := hwr.size
    by_cases hlt : k < r.length
    · obtain ⟨p, hp⟩ : ∃ p, r[k]? = some p := ⟨r[k], List.getElem?_eq_getElem hlt⟩
      obtain ⟨g, off, rfl, hg, j0, j1⟩ := cells2 (HL.out.below hwr (Nat.le_refl _)) hp
      have hlt2 : (k : Int) < (r.length : Int) := by omega
      have hd := nextS_drop (n := n) hp
      by_cases hn : n < p.t
      · have e1 : decide (n < p.t) = true := decide_eq_true hn
        have HR : Hid (nextS r n = some (max n p.f)) := by show _ = _; rw [← hj.out, hd, if_pos hn]
        clear hp hd hn hj
        go_wp2_with fail
        go_ret2
        exact ⟨by rw [HR.out]; rfl, by (repeat' (first | with_reducible exact Below.refl _ _ | with_reducible assumption | with_reducible refine Below.drew ?_ | with_reducible refine below_drewN ?_ _ | with_reducible refine Below.setCell ?_ ?_ _ | with_reducible refine Below.alloc ?_ ?_ _ | omega | (simp; done) | (simp; omega)))⟩
      · have e1 : decide (n < p.t) = false := decide_eq_false hn
        have HR : Hid (nextS (r.drop (k + 1)) n = nextS r n) := by show _ = _; rw [← hj.out, hd, if_neg hn]
        clear hp hd hn hj
        go_wp2_with fail
        go_roundw
        case rel => exact ⟨k + 1, by omega, HR, by go_num, by (repeat' (first | with_reducible exact Below.refl _ _ | with_reducible assumption | with_reducible refine Below.drew ?_ | with_reducible refine below_drewN ?_ _ | with_reducible refine Below.setCell ?_ ?_ _ | with_reducible refine Below.alloc ?_ ?_ _ | omega | (simp; done) | (simp; omega)))⟩
        case measure => simp [intOf]; omega
    · obtain rfl : k = r.length := by omega
      have HR : Hid (nextS r n = none) := by show _ = _; rw [← hj.out, List.drop_length]; rfl
      go_wp2_with fail
      go_ret2
      exact ⟨by rw [HR.out]; rfl, hwr⟩

theorem sameS_yes (f t : Int) (w : World) : Calls Tryd.prog 86 #[.agg #[.int .i64 f, .int .i64 t], .agg #[.int .i64 f, .int .i64 t]] w fun e w' => e = .returned (.bool true) ∧ Below w.heap.size w w' := by
  have h1 : (f == f) = true := by simp
  have h2 : (t == t) = true := by simp
  go_enter Tryd.func86, Tryd.ntmps86
  go_wp2_with fail
  go_ret
  exact ⟨rfl, by (repeat' (first | with_reducible exact Below.refl _ _ | with_reducible assumption | with_reducible refine Below.drew ?_ | with_reducible refine below_drewN ?_ _ | with_reducible refine Below.setCell ?_ ?_ _ | with_reducible refine Below.alloc ?_ ?_ _ | omega | (simp; done) | (simp; omega)))⟩

set_option maxRecDepth 10000 in
set_option maxHeartbeats 4000000 in
theorem sameSpans_yes (l : List (Pc Unit)) (n : Nat) (A B : Option Addr) (c d : Nat) (w : World) (hn : l.length = n) (hl : RowAt encU 2 w w.heap.size A l) (hm : RowAt encU 2 w w.heap.size B l) (h1 : n ≤ 1000000) :
    Calls Tryd.prog 38 #[.slice A n c, .slice B n d] w fun e w' => e = .returned (.bool true) ∧ Below w.heap.size w w' := by
  have HL := Lib.hid hl
  have HM := Lib.hid hm
  have HN := Lib.hid hn
  clear hl hm hn
  go_enter Tryd.func38, Tryd.ntmps38
  go_wp2_with fail
  go_loopw [5] (fun i wr => ∃ k : Nat, k ≤ n ∧ i = .int .i64 k ∧ Below w.heap.size w wr) (fun i _ => n - (intOf i).toNat)
  case atStart => exact ⟨0, Nat.zero_le _, rfl, Below.refl _ _⟩
  case round =>
    obtain ⟨k, hk, rfl, hb⟩ := hrel
    have z0 := hb.size
    by_cases hlt : k < n
    · obtain ⟨p, hp⟩ : ∃ p, l[k]? = some p := ⟨l[k]'(by rw [HN.out]; exact hlt), List.getElem?_eq_getElem _⟩
      obtain ⟨g, off, rfl, hg, j0, j1⟩ := cells2 (HL.out.below hb (Nat.le_refl _)) hp
      obtain ⟨g2, off2, rfl, hg2, i0, i1⟩ := cells2 (HM.out.below hb (Nat.le_refl _)) hp
      have hlt2 : (k : Int) < (n : Int) := by omega
      clear hp
      go_wp2_with fail
      go_region_held3 (fun w' => w'.cell? ⟨g, off + k * 2, none⟩ = some (.int .i64 p.f) ∧ w'.cell? ⟨g, off + k * 2 + 1, none⟩ = some (.int .i64 p.t) ∧ w'.cell? ⟨g2, off2 + k * 2, none⟩ = some (.int .i64 p.f) ∧ w'.cell? ⟨g2, off2 + k * 2 + 1, none⟩ = some (.int .i64 p.t)) (first | with_reducible exact ⟨j0, j1, i0, i1⟩ | go_keep)
        (first | (go_at_call 86; refine (sameS_yes _ _ _).mono ?_; rintro e w5 ⟨rfl, hb5⟩; have hw5 : Below w.heap.size w w5 := stepH (by (repeat' (first | with_reducible exact Below.refl _ _ | with_reducible assumption | with_reducible refine Below.drew ?_ | with_reducible refine below_drewN ?_ _ | with_reducible refine Below.setCell ?_ ?_ _ | with_reducible refine Below.alloc ?_ ?_ _ | omega | (simp; done) | (simp; omega)))) hb5; replace j0 := cellOf hb5 (by first | exact j0 | exact cell_drew j0); replace j1 := cellOf hb5 (by first | exact j1 | exact cell_drew j1); replace i0 := cellOf hb5 (by first | exact i0 | exact cell_drew i0); replace i1 := cellOf hb5 (by first | exact i1 | exact cell_drew i1)))
      clear hb5
      go_wp2_with fail
      go_roundw
      case rel => exact ⟨k + 1, by omega, by go_num, hw5⟩
      case measure => simp [intOf]; omega
    · go_wp2_with fail
      go_ret
      exact ⟨rfl, hb⟩

end Go.Proofs.YtmodofbelpaelaaDoor
