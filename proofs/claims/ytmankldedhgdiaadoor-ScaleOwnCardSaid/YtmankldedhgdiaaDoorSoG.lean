/- Two scales put together: plain words. -/
import Derived.Test.YtmankldedhgdiaaDoorSoF
namespace Go.Proofs.YtmankldedhgdiaaDoor
open Go.RowKit

/-- what a function of two rates answers -/
def FR (E : Nat → Addr) (r : Option Rat) (n d : Int) (err : Value) : Prop := match r with
  | some q => n = q.num ∧ d = q.den ∧ err = .nilIface
  | none => n = 0 ∧ d = 0 ∧ err = (.iface 122 (.pointer (some (E 5))))
theorem fr_some {E : Nat → Addr} {r : Option Rat} {n d : Int} {err : Value} {q : Rat} (h : FR E r n d err) (hr : r = some q) : n = q.num ∧ d = q.den ∧ err = .nilIface := by subst hr; exact h
theorem fr_none {E : Nat → Addr} {r : Option Rat} {n d : Int} {err : Value} (h : FR E r n d err) (hr : r = none) : n = 0 ∧ d = 0 ∧ err = (.iface 122 (.pointer (some (E 5)))) := by subst hr; exact h
def addO (a b : Rat) : Option Rat := if Good (a + b) then some (a + b) else none
def mulO (k a : Rat) : Option Rat := if Good (a * k) then some (a * k) else none
theorem addO_good {a b r : Rat} (h : addO a b = some r) : Good r := by
  unfold addO at h; split at h
  · rename_i hg; cases h; exact hg
  · cases h
theorem mulO_good {k a r : Rat} (h : mulO k a = some r) : Good r := by
  unfold mulO at h; split at h
  · rename_i hg; cases h; exact hg
  · cases h
theorem fr_goodR {E : Nat → Addr} {q : Rat} {n d : Int} {err : Value} (h : ResF E (goodR q) n d err) : FR E (if Good q then some q else none) n d err := by
  rcases resF_two h with ⟨hg, h1, h2, h3⟩ | ⟨hg, h1, h2, h3⟩
  · rw [if_pos hg]; exact ⟨h1, h2, h3⟩
  · rw [if_neg hg]; exact ⟨h1, h2, h3⟩
/-- the scale that comes out; nothing where a rate is none, or where it is too long -/
def withL (f : Rat → Rat → Option Rat) (s t : List (Rat × Rat)) (l : List Rat) : List (Rat × Rat) := match outsL f s t l with
  | none => []
  | some o => if 32 < (normL o).length then [] else normL o
theorem outs_on {f : Rat → Rat → Option Rat} {s t : List (Rat × Rat)} {l : List Rat} {o : List (Rat × Rat)} {x r : Rat} {l' : List Rat} {R : Option (List (Rat × Rat))} (h : R = (outsL f s t l).map (o ++ ·)) (hl : l = x :: l') (hr : f (rateF x 0 s) (rateF x 0 t) = some r) : R = (outsL f s t l').map ((o ++ [(x, r)]) ++ ·) := by
  subst hl
  have e : outsL f s t (x :: l') = match outsL f s t l' with | none => none | some o => some ((x, r) :: o) := by
    show (match f (rateF x 0 s) (rateF x 0 t) with | none => none | some r => _) = _
    rw [hr]; rfl
  rw [h, e]
  cases outsL f s t l' with
  | none => rfl
  | some o' => simp
theorem outs_off {f : Rat → Rat → Option Rat} {s t : List (Rat × Rat)} {l : List Rat} {o : List (Rat × Rat)} {x : Rat} {l' : List Rat} {R : Option (List (Rat × Rat))} (h : R = (outsL f s t l).map (o ++ ·)) (hl : l = x :: l') (hr : f (rateF x 0 s) (rateF x 0 t) = none) : R = none := by
  subst hl
  have e : outsL f s t (x :: l') = none := by
    show (match f (rateF x 0 s) (rateF x 0 t) with | none => none | some r => _) = _
    rw [hr]
  rw [h, e]; rfl
theorem isF_compact {s t : List (Rat × Rat)} {rs : List Rat} (hp : rs.Perm ((s ++ t).map (·.1))) (hs : rs.Pairwise (fun a b => a ≤ b)) : IsF s t (dedup rs) :=
  ⟨dedup_rise hs, fun x => by rw [dedup_mem, hp.mem_iff, List.map_append, List.mem_append]⟩

end Go.Proofs.YtmankldedhgdiaaDoor
