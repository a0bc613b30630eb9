/- How many days two sets have together; sets that say the same are one: plain law. -/
import Derived.Test.YtmodofbelpaelaaDoorDayF
namespace Go.Proofs.YtmodofbelpaelaaDoor
open Go.RowKit

def ind (b : Bool) : Int := if b = true then 1 else 0
/-- how many of the first days have a property -/
def cnt (P : Int → Bool) : Nat → Int
  | 0 => 0
  | k + 1 => cnt P k + ind (P k)
theorem cnt_add {P Q R S : Int → Bool} (h : ∀ n : Int, ind (P n) + ind (Q n) = ind (R n) + ind (S n)) (k : Nat) : cnt P k + cnt Q k = cnt R k + cnt S k := by
  induction k with
  | zero => rfl
  | succ k ih => have := h k; simp only [cnt]; omega
theorem cnt_none (k : Nat) : cnt (fun _ => false) k = 0 := by
  induction k with
  | zero => rfl
  | succ k ih => simp [cnt, ih, ind]
theorem cnt_span {f t : Int} (hf : 0 ≤ f) (ht : f ≤ t) (k : Nat) : cnt (fun n => decide (f ≤ n) && decide (n < t)) k = if (k : Int) ≤ f then 0 else if (k : Int) ≤ t then k - f else t - f := by
  induction k with
  | zero => rw [if_pos (by omega)]; rfl
  | succ k ih =>
    simp only [cnt]
    rw [ih]
    by_cases h1 : f ≤ (k : Int)
    · by_cases h2 : (k : Int) < t
      · have e : ind (decide (f ≤ (k : Int)) && decide ((k : Int) < t)) = 1 := by simp [ind, h1, h2]
        rw [e]
        push_cast
        repeat' split
        all_goals omega
      · have e : ind (decide (f ≤ (k : Int)) && decide ((k : Int) < t)) = 0 := by simp [ind, h2]
        rw [e]
        push_cast
        repeat' split
        all_goals omega
    · have e : ind (decide (f ≤ (k : Int)) && decide ((k : Int) < t)) = 0 := by simp [ind, h1]
      rw [e]
      push_cast
      repeat' split
      all_goals omega
theorem lenS_cnt {b : Int} {M : Nat} {l : List (Pc Unit)} (h : Rise b l) (hM : UpTo M l) (hb : 0 ≤ b) : lenS l = cnt (hasB l) M := by
  induction l generalizing b with
  | nil => exact (cnt_none M).symm
  | cons p r ih =>
    obtain ⟨h1, h2, h3⟩ := h
    have hp := hM p (List.mem_cons_self ..)
    have e1 := ih h3 (fun x hx => hM x (List.mem_cons_of_mem _ hx)) (by omega)
    have e2 := cnt_span (f := p.f) (t := p.t) (by omega) (by omega) M
    rw [if_neg (by omega)] at e2
    have e3 := cnt_add (P := hasB (p :: r)) (Q := fun _ => false) (R := fun n => decide (p.f ≤ n) && decide (n < p.t)) (S := hasB r) (fun n => by
      rw [hasB]
      by_cases hr : hasB r n = true
      · obtain ⟨x, hx, hx1, _⟩ := hasB_iff.1 hr
        have := h3.mem hx
        have : decide (n < p.t) = false := decide_eq_false (by omega)
        simp [hr, this, ind]
      · have hr2 : hasB r n = false := by simpa using hr
        simp [hr2]) M
    rw [cnt_none] at e3
    rw [lenS, e1]
    split at e2 <;> omega

theorem hasB_eq {l : List (Pc Unit)} {n : Int} {b : Bool} (h : hasD l n ↔ b = true) : hasB l n = b := by
  cases b with
  | true => exact hasB_iff.2 (h.2 rfl)
  | false => cases hb : hasB l n with
    | false => rfl
    | true => exact absurd (h.1 (hasB_iff.1 hb)) (by decide)

theorem or_has {l m r : List (Pc Unit)} (h : SetOf MD (l ++ m) r) (n : Int) : hasB r n = (hasB l n || hasB m n) :=
  hasB_eq (by rw [h.has, hasD_append, Bool.or_eq_true, hasB_iff, hasB_iff])
theorem and_has {l m r : List (Pc Unit)} (h : SetOf MD (andP l m) r) (n : Int) : hasB r n = (hasB l n && hasB m n) :=
  hasB_eq (by rw [h.has, andP_has, Bool.and_eq_true, hasB_iff, hasB_iff])
theorem less_has {l m r : List (Pc Unit)} (hm : Canon MD m) (h : SetOf MD (lessP l m) r) (n : Int) : hasB r n = (hasB l n && !hasB m n) :=
  hasB_eq (by rw [h.has, lessP_has hm.rise, Bool.and_eq_true, hasB_iff, Bool.not_eq_true', ← hasB_iff (l := m), Bool.not_eq_true])

theorem len_law {s t o d : List (Pc Unit)} (cs : Canon MD s) (ct : Canon MD t) (ho : SetOf MD (s ++ t) o) (hd : SetOf MD (andP s t) d) : lenS o + lenS d = lenS s + lenS t := by
  have e : ∀ {l}, Canon MD l → lenS l = cnt (hasB l) 3652059 := fun h => lenS_cnt h.rise h.upTo (Int.le_refl _)
  rw [e cs, e ct, e ho.canon, e hd.canon]
  refine cnt_add (fun n => ?_) _
  rw [or_has ho, and_has hd]
  cases hasB s n <;> cases hasB t n <;> rfl

theorem or_comm_set {l m r r' : List (Pc Unit)} (h : SetOf MD (l ++ m) r) (h' : SetOf MD (m ++ l) r') : r = r' :=
  h.canon.uniqD h'.canon (fun n => by rw [h.has, h'.has, hasD_append, hasD_append]; exact Or.comm)
theorem rest_set {s t d l r : List (Pc Unit)} (cs : Canon MD s) (ct : Canon MD t) (hd : SetOf MD (andP s t) d) (hl : SetOf MD (lessP s t) l) (h : SetOf MD (l ++ d) r) : s = r :=
  cs.uniqD h.canon (fun n => by
    rw [h.has, hasD_append, hl.has, hd.has, lessP_has ct.rise, andP_has]
    by_cases ht : hasD t n
    · exact ⟨fun hs => .inr ⟨hs, ht⟩, fun hh => hh.elim (fun h => h.1) (fun h => h.1)⟩
    · exact ⟨fun hs => .inl ⟨hs, ht⟩, fun hh => hh.elim (fun h => h.1) (fun h => h.1)⟩)
theorem again_set {s r : List (Pc Unit)} (cs : Canon MD s) (h : SetOf MD s r) : s = r := cs.uniqD h.canon (fun n => (h.has n).symm)

/-- a row carried over to a later world -/
theorem moved {α : Type} {enc : α → List Value} {size : Nat} {w w' : World} {A : Option Addr} {l : List α} (h : RowAt enc size w w.heap.size A l) (hb : Below w.heap.size w w') : RowAt enc size w' w'.heap.size A l := (h.below hb (Nat.le_refl _)).more hb.size

end Go.Proofs.YtmodofbelpaelaaDoor
