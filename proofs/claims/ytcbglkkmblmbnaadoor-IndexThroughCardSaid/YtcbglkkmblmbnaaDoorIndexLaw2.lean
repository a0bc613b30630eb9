/- Chain and Through: what they compute. -/
import Derived.Test.YtcbglkkmblmbnaaDoorIndexC
import Derived.Test.YtcbglkkmblmbnaaDoorIndexLaw
namespace Go.Proofs.YtcbglkkmblmbnaaDoor
open Go.RowKit

theorem factor_mul {b a : Int} {q : Rat} (h : factorR b a = .ok q) : (a : Rat) ≠ 0 ∧ q * (a : Rat) = (b : Rat) := by
  unfold factorR makeR goodR at h
  split at h
  · cases h
  split at h
  · cases h
  rename_i h0
  split at h
  · cases h
    have ha : (a : Rat) ≠ 0 := fun e => h0 (Rat.intCast_inj.1 (e.trans rfl))
    refine ⟨ha, ?_⟩
    rw [Rat.divInt_eq_div]
    exact Rat.div_mul_cancel ha
  · cases h

theorem chainN_at {l : List Int} {n : Nat} {fs : List Rat} (h : chainN l n = .ok fs) {k : Nat} {q : Rat} {x y : Int} (hq : fs[k]? = some q) (hx : l[k]? = some x) (hy : l[k + 1]? = some y) : factorR y x = .ok q := by
  induction n generalizing fs with
  | zero => cases h; simp at hq
  | succ n ih =>
    unfold chainN at h
    split at h
    · cases h
    · rename_i gs hg
      split at h
      · cases h
      · rename_i f hf
        cases h
        rw [List.getElem?_append] at hq
        split at hq
        · exact ih hg hq
        · rename_i hk
          have hl := chainN_len hg
          have : k < (gs ++ [f]).length := by
            rcases Nat.lt_or_ge k (gs ++ [f]).length with h | h
            · exact h
            · rw [List.length_append, List.length_singleton] at h
              rw [List.getElem?_eq_none (by rw [List.length_singleton]; omega)] at hq; cases hq
          rw [List.length_append, List.length_singleton] at this
          obtain rfl : k = n := by omega
          rw [show k - gs.length = 0 by omega] at hq
          cases hq
          rw [getD_of hy, getD_of hx] at hf
          exact hf

theorem last_at {a : Int} {out : List Int} {x : Int} (h : (a :: out)[out.length]? = some x) : out.getLastD a = x := by
  rcases List.eq_nil_or_concat out with rfl | ⟨l, y, rfl⟩
  · simpa using h
  · rw [List.concat_eq_append, last_snoc]
    rw [List.concat_eq_append, List.length_append, List.length_singleton, List.getElem?_cons_succ, List.getElem?_append_right (Nat.le_refl _)] at h
    simpa using h

theorem throughN_at {a unit mode : Int} {fs : List Rat} {n : Nat} {out : List Int} (h : throughN a unit mode fs n = .ok out) :
    out.length = n ∧ ∀ (k : Nat) (x : Int) (q : Rat) (y : Int), (a :: out)[k]? = some x → fs[k]? = some q → out[k]? = some y → growI x q.num q.den unit mode = .ok y := by
  induction n generalizing out with
  | zero => cases h; exact ⟨rfl, fun k x q y _ _ h => by simp at h⟩
  | succ n ih =>
    unfold throughN at h
    split at h
    · cases h
    · rename_i o ho
      split at h
      · cases h
      · rename_i z hz
        cases h
        obtain ⟨hl, ih⟩ := ih ho
        refine ⟨by rw [List.length_append, hl]; rfl, fun k x q y hx hq hy => ?_⟩
        rcases Nat.lt_or_ge k n with hk | hk
        · rw [List.getElem?_append_left (by omega)] at hy
          refine ih k x q y ?_ hq hy
          rw [← List.cons_append, List.getElem?_append_left (by rw [List.length_cons]; omega)] at hx
          exact hx
        · have : k < (o ++ [z]).length := (List.getElem?_eq_some_iff.1 hy).1
          rw [List.length_append, List.length_singleton] at this
          obtain rfl : k = n := by omega
          rw [List.getElem?_append_right (by omega), show k - o.length = 0 by omega] at hy
          cases hy
          rw [getD_fq hq] at hz
          rw [← List.cons_append, List.getElem?_append_left (by rw [List.length_cons]; omega), ← hl] at hx
          rw [last_at hx] at hz
          exact hz

/-- what Through answers without an error -/
theorem through_ok {a unit mode : Int} {l out : List Int} (h : throughI a l unit mode = .ok out) : ∃ fs : List Rat, chainI l = .ok fs ∧ fs.length = l.length - 1 ∧ out.length = fs.length ∧
    (∀ (k : Nat) (x : Int) (q : Rat) (y : Int), (a :: out)[k]? = some x → fs[k]? = some q → out[k]? = some y → growI x q.num q.den unit mode = .ok y) ∧
    (∀ (k : Nat) (q : Rat) (x y : Int), fs[k]? = some q → l[k]? = some x → l[k + 1]? = some y → factorR y x = .ok q) := by
  unfold throughI at h
  split at h
  · cases h
  · rename_i fs hf
    obtain ⟨h1, h2⟩ := throughN_at h
    exact ⟨fs, hf, chain_len hf, h1, h2, fun k q x y hq hx hy => chainN_at hf hq hx hy⟩

/-- where each step is just its product: the number so far times the first level is the first number times the level there -/
theorem exact_step {a l0 lk l1 x y : Int} {q : Rat} (hf : factorR l1 lk = .ok q) (hi : (x : Rat) * (l0 : Rat) = (a : Rat) * (lk : Rat)) (he : (x : Rat) * q = (y : Rat)) : (y : Rat) * (l0 : Rat) = (a : Rat) * (l1 : Rat) := by
  obtain ⟨_, h2⟩ := factor_mul hf
  rw [← h2, ← he]
  have : (x : Rat) * q * (l0 : Rat) = (x : Rat) * (l0 : Rat) * q := by grind
  rw [this, hi]
  grind

theorem exact_end {a l0 ln x : Int} {q : Rat} (hf : factorR ln l0 = .ok q) (hi : (x : Rat) * (l0 : Rat) = (a : Rat) * (ln : Rat)) : (a : Rat) * q = (x : Rat) := by
  obtain ⟨h1, h2⟩ := factor_mul hf
  have h3 : ((a : Rat) * q - (x : Rat)) * (l0 : Rat) = 0 := by rw [← h2] at hi; grind
  rcases Rat.mul_eq_zero.1 h3 with h | h
  · grind
  · exact absurd h h1

end Go.Proofs.YtcbglkkmblmbnaaDoor
