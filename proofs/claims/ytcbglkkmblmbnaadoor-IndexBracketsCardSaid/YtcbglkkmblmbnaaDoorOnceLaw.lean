/- Once and Each: what they compute. -/
import Derived.Test.YtcbglkkmblmbnaaDoorAgainLaw
import Derived.Test.YtcbglkkmblmbnaaDoorSumsLaw
namespace Go.Proofs.YtcbglkkmblmbnaaDoor
open Go.RowKit

/-- what Each answers from a sum on -/
def eachR (mode un ud : Int) : Rat → List (Int × Int) → Except Nat Rat
  | a, [] => .ok a
  | a, x :: r => match roundI x.1 x.2 mode un ud with
    | .error g => .error g
    | .ok y => if Good (a + y) then eachR mode un ud (a + y) r else .error 1
/-- what Once answers -/
def onceR (mode un ud : Int) (l : List (Int × Int)) : Except Nat Rat :=
  match sumI l with
  | .error g => .error g
  | .ok s => roundI s.num s.den mode un ud

theorem eachR_err {mode un ud : Int} {a : Rat} {l : List (Int × Int)} {k : Nat} {x : Int × Int} {g : Nat} (hx : l[k]? = some x) (h : roundI x.1 x.2 mode un ud = .error g) : eachR mode un ud a (l.drop k) = .error g := by
  have hk : k < l.length := (List.getElem?_eq_some_iff.1 hx).1
  rw [List.drop_eq_getElem_cons hk, (List.getElem?_eq_some_iff.1 hx).2]
  unfold eachR
  rw [h]

theorem eachR_ok {mode un ud : Int} {a y : Rat} {l : List (Int × Int)} {k : Nat} {x : Int × Int} (hx : l[k]? = some x) (h : roundI x.1 x.2 mode un ud = .ok y) : eachR mode un ud a (l.drop k) = if Good (a + y) then eachR mode un ud (a + y) (l.drop (k + 1)) else .error 1 := by
  have hk : k < l.length := (List.getElem?_eq_some_iff.1 hx).1
  rw [List.drop_eq_getElem_cons hk, (List.getElem?_eq_some_iff.1 hx).2]
  conv => lhs; unfold eachR
  rw [h]

theorem eachR_good {mode un ud : Int} {l : List (Int × Int)} {a b : Rat} (ha : Good a) (h : eachR mode un ud a l = .ok b) : Good b := by
  induction l generalizing a with
  | nil => cases h; exact ha
  | cons x r ih =>
    unfold eachR at h
    split at h
    · cases h
    · split at h
      · rename_i hg; exact ih hg h
      · cases h

theorem each_none {un ud : Int} {qs : List Rat} {a b : Rat} (h : eachR 0 un ud a (qs.map fq) = .ok b) : b = a + sumL qs := by
  induction qs generalizing a with
  | nil => cases h; exact (Rat.add_zero b).symm
  | cons q r ih =>
    rw [List.map_cons] at h
    unfold eachR at h
    split at h
    · cases h
    · rename_i y hy
      obtain ⟨q', _, e1, e2, _, _, hc⟩ := round_ok hy
      obtain rfl := fv_inj e1 e2
      split at h
      · have := ih h
        rcases hc with ⟨_, rfl⟩ | ⟨m1, _⟩
        · rw [this]; show a + y + sumL r = a + (y + sumL r); rw [Rat.add_assoc]
        · omega
      · cases h

theorem each_near {mode : Int} {u : Rat} (m1 : 1 ≤ mode) (m2 : mode ≤ 6) (h0 : 0 < u.num) {qs : List Rat} {a b : Rat} (h : eachR mode u.num u.den a (qs.map fq) = .ok b) :
    b - a - sumL qs ≤ ((qs.length : Int) : Rat) * u ∧ a + sumL qs - b ≤ ((qs.length : Int) : Rat) * u := by
  induction qs generalizing a with
  | nil =>
    cases h
    have e : (((([] : List Rat).length : Nat) : Int) : Rat) = 0 := rfl
    have e2 : sumL [] = 0 := rfl
    rw [e, e2]
    constructor <;> grind
  | cons q r ih =>
    rw [List.map_cons] at h
    unfold eachR at h
    split at h
    · cases h
    · rename_i y hy
      obtain ⟨q', _, e1, e2, _, _, hc⟩ := round_ok hy
      obtain rfl := fv_inj e1 e2
      split at h
      · obtain ⟨i1, i2⟩ := ih h
        rcases hc with ⟨m0, _⟩ | ⟨_, _, u', _, _, e5, e6, rfl⟩
        · omega
        · obtain rfl := fv_inj e5 e6
          obtain ⟨s1, s2, _⟩ := round_side (q := q) h0 m1 m2
          have e : ((((q :: r).length : Nat) : Int) : Rat) = ((r.length : Int) : Rat) + 1 := by
            rw [List.length_cons, show ((r.length + 1 : Nat) : Int) = (r.length : Int) + 1 by omega, Rat.intCast_add]; rfl
          have e3 : sumL (q :: r) = q + sumL r := rfl
          rw [e, e3]
          constructor <;> grind
      · cases h

theorem once_ok {mode un ud : Int} {l : List (Int × Int)} {a : Rat} (h : onceR mode un ud l = .ok a) : ∃ (qs : List Rat), l = qs.map fq ∧ (∀ q ∈ qs, Good q) ∧ Good (sumL qs) ∧ roundI (sumL qs).num (sumL qs).den mode un ud = .ok a := by
  unfold onceR at h
  split at h
  · cases h
  · rename_i s hs
    have hv : allV l = true := by
      cases hv : allV l
      · unfold sumI at hs; rw [hv] at hs; cases hs
      · rfl
    obtain ⟨qs, rfl, hq⟩ := all_fq fun x hx => List.all_eq_true.1 hv x hx
    rw [sumI_fq hq] at hs
    have hg := foldR_good good_zero hs
    have he := foldR_sum hs
    rw [Rat.zero_add] at he
    subst he
    exact ⟨qs, rfl, hq, hg, h⟩

/-- rounded once against rounded each -/
theorem once_each {mode un ud : Int} {l : List (Int × Int)} {a b : Rat} (h1 : onceR mode un ud l = .ok a) (h2 : eachR mode un ud 0 l = .ok b) :
    Good a ∧ Good b ∧ ((mode = 0 ∧ a = b) ∨ (mode ≠ 0 ∧ ∃ u : Rat, Good u ∧ 0 < u.num ∧ un = u.num ∧ ud = u.den ∧ a - b < ((l.length + 1 : Int) : Rat) * u ∧ b - a < ((l.length + 1 : Int) : Rat) * u)) := by
  obtain ⟨qs, rfl, hq, hg, hr⟩ := once_ok h1
  have hb := eachR_good good_zero h2
  obtain ⟨q', hq', e1, e2, hrd, hga, hc⟩ := round_ok hr
  obtain rfl := fv_inj e1 e2
  refine ⟨hga, hb, ?_⟩
  rcases hc with ⟨rfl, rfl⟩ | ⟨m1, m2, u, hu, h0, rfl, rfl, rfl⟩
  · left
    refine ⟨rfl, ?_⟩
    rw [each_none h2, Rat.zero_add]
  · right
    refine ⟨by omega, u, hu, h0, rfl, rfl, ?_⟩
    obtain ⟨n1, n2⟩ := each_near m1 m2 h0 h2
    obtain ⟨s1, s2, _⟩ := round_side (q := sumL qs) h0 m1 m2
    rw [List.length_map, Rat.intCast_add]
    have e1 : ((1 : Int) : Rat) = 1 := rfl
    rw [e1]
    constructor <;> grind

/-- a whole number is a fraction -/
theorem good_int {k : Int} (h1 : -1000000000000 ≤ k) (h2 : k ≤ 1000000000000) : Good (k : Rat) := by
  unfold Good
  rw [Rat.num_intCast, Rat.den_intCast]
  omega

end Go.Proofs.YtcbglkkmblmbnaaDoor
