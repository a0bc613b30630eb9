/- Apply: the plain law. -/
import Derived.Test.YtmoeoomlggjaaaaGreatDoorAmS
namespace Go.Proofs.YtmoeoomlggjaaaaGreatDoor
open Go.RowKit Go.Maps

/-- f, and what of g has been done to it -/
def appL (f : St) (g : Am) (left : Lit → Bool) : St := fun x => match g x with
  | some c => if left (.string x) = false then (if c.clear = true then none else some (c.n, c.d)) else f x
  | none => f x
/-- g done to f -/
def app (f : St) (g : Am) : St := fun x => match g x with
  | some c => if c.clear = true then none else some (c.n, c.d)
  | none => f x
theorem appL_start {w : World} {D : DataW Value} {f : St} {g : Am} (h : ReadA w D g) : appL f g (Maps.has D) = f := by
  funext x
  unfold appL
  split
  · rename_i c hc
    rw [h.has x, hc]; simp
  · rfl
theorem appL_done {f : St} {g : Am} {left : Lit → Bool} (h : ∀ z, left z = false) : appL f g left = app f g := by
  funext x; unfold appL app; simp [h]
theorem appL_step {f : St} {g : Am} {left : Lit → Bool} {c : Ch} (hc : g (nmb c) = some c) : doC c (appL f g left) = appL f g (fun z => left z && !z.sameKey (keyS c.name)) := by
  funext x
  unfold doC appL
  by_cases e : x = nmb c
  · subst e
    rw [if_pos rfl, hc]
    simp [keyS, nmb, Lit.sameKey]
  · rw [if_neg e]
    have : (Lit.string x).sameKey (keyS c.name) = false := by
      unfold keyS Lit.sameKey
      simp
      exact e
    simp [this]
/-- one law of amendments: what stands behind another does it behind it -/
theorem app_over (f : St) (g h : Am) : app f (over g h) = app (app f g) h := by
  funext x
  unfold app over
  cases h x with
  | none => simp
  | some c => simp
end Go.Proofs.YtmoeoomlggjaaaaGreatDoor
