/- Timelines: neighbours; bounds of the next change: plain law. No program in sight. -/
import Derived.Test.YtmodofbelpaelaaDoorLineO
namespace Go.Proofs.YtmodofbelpaelaaDoor

theorem nextL_le {α : Type} {b M n k : Int} {l : List (Pc α)} (hr : Rise b l) (hM : UpTo M l) (h : nextL M l n = some k) : k ≤ M := by
  induction l generalizing b with
  | nil => cases h
  | cons p r ih =>
    obtain ⟨h1, h2, h3⟩ := hr
    have hp := hM p (List.mem_cons_self ..)
    rw [nextL] at h
    split at h
    · cases h; omega
    · split at h
      · split at h
        · cases h
        · cases h; exact hp
      · exact ih h3 (fun x hx => hM x (List.mem_cons_of_mem _ hx)) h

theorem Rise.next {α : Type} {b : Int} {l : List (Pc α)} {k : Nat} {p q : Pc α} (h : Rise b l) (hq : l[k]? = some q) (hp : l[k + 1]? = some p) : q.t ≤ p.f := by
  induction l generalizing b k with
  | nil => simp at hq
  | cons x r ih =>
    obtain ⟨h1, h2, h3⟩ := h
    cases k with
    | zero =>
      cases hq
      have hp' : r[0]? = some p := by simpa using hp
      cases r with
      | nil => simp at hp'
      | cons y s => cases hp'; exact h3.1
    | succ k => exact ih h3 (by simpa using hq) (by simpa using hp)

theorem Apart.next {α : Type} {l : List (Pc α)} {k : Nat} {p q : Pc α} (h : Apart l) (hq : l[k]? = some q) (hp : l[k + 1]? = some p) : ¬ (q.t = p.f ∧ q.v = p.v) := by
  induction l generalizing k with
  | nil => simp at hq
  | cons x r ih =>
    obtain ⟨h1, h2⟩ := h
    cases k with
    | zero =>
      cases hq
      have hp' : r[0]? = some p := by simpa using hp
      cases r with
      | nil => simp at hp'
      | cons y s => cases hp'; exact h1 _ rfl
    | succ k => exact ih h2 (by simpa using hq) (by simpa using hp)

def endO (o : Option Int) : Int := o.getD 3652059

theorem stays_at {r : List (Pc Int)} {n m : Int} {o : Option Int} (hc : Canon 3652059 r) (ho : nextL 3652059 r n = o) (h1 : n < m) (h2 : m < endO o) : valL r m = valL r n := by
  refine nextL_stays hc.rise hc.upTo (by omega) (fun k hk => ?_) ?_
  · rw [ho] at hk; subst hk; exact h2
  · cases o with
    | none => exact h2
    | some k => have := nextL_le hc.rise hc.upTo ho; have h2 : m < k := h2; omega

end Go.Proofs.YtmodofbelpaelaaDoor
