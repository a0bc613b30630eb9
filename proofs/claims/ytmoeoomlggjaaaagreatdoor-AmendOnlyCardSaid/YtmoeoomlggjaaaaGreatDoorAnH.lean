/- AmendLeast: the plain law. -/
import Derived.Test.YtmoeoomlggjaaaaGreatDoorAnF
namespace Go.Proofs.YtmoeoomlggjaaaaGreatDoor
open Go.RowKit Go.Maps

theorem diff_some (u v : St) (y : List UInt8) : (diffA u v y).isSome = true ↔ u y ≠ v y := by
  cases hq : diffA u v y with
  | none =>
    have := (diff_none u v y).1 hq
    constructor
    · intro h; cases h
    · intro h; exact absurd this h
  | some c =>
    constructor
    · intro _ e
      rw [(diff_none u v y).2 e] at hq
      cases hq
    · intro _; rfl
theorem diff_clear {u v : St} {y : List UInt8} {c : Ch} (h : diffA u v y = some c) (hc : c.clear ≠ true) : (v y).isSome = true := by
  cases hv : v y with
  | some b => rfl
  | none =>
    unfold diffA at h
    rw [hv] at h
    dsimp only at h
    split at h
    · injection h with h
      subst h
      exact absurd rfl hc
    · cases h
theorem diff_names {u v : St} {cs os : List Ch} (h1 : Canon (diffA u v) cs) (h2 : Canon (diffA v u) os) : cs.map nmb = os.map nmb := by
  refine SK.unique (f := diffA u v) h1.keys ⟨h2.keys.sorted, h2.keys.nodup, fun y => ?_⟩
  rw [h2.keys.mem, diff_some, diff_some]
  exact ⟨fun h e => h e.symm, fun h e => h e.symm⟩
theorem diff_nil {u v : St} {cs : List Ch} (h : Canon (diffA u v) cs) : cs.length = 0 ↔ u = v := by
  constructor
  · intro h0
    funext y
    rw [← diff_none]
    have hc : cs = [] := List.eq_nil_of_length_eq_zero h0
    subst hc
    cases hq : diffA u v y with
    | none => rfl
    | some c => have := (h.keys.mem y).2 (by rw [hq]; rfl); simp at this
  · rintro rfl
    cases cs with
    | nil => rfl
    | cons c r =>
      have := h.at' c (List.mem_cons_self ..)
      rw [(diff_none u u (nmb c)).2 rfl] at this
      cases this
theorem canonI_eq {u v : St} {ul vl : List It} (h1 : CanonI u ul) (h2 : CanonI v vl) : ul = vl ↔ u = v := by
  constructor
  · rintro rfl
    rw [← h1.inF, ← h2.inF]
  · rintro rfl
    exact h1.unique h2
/-- all changes but the k-th -/
def rest (cs : List Ch) (k : Nat) : List Ch := cs.take k ++ cs.drop (k + 1)
theorem rest_mem {cs : List Ch} {k : Nat} {c : Ch} (h : c ∈ rest cs k) : c ∈ cs := by
  unfold rest at h
  rcases List.mem_append.1 h with h | h
  · exact List.mem_of_mem_take h
  · exact List.mem_of_mem_drop h
theorem rest_len {cs : List Ch} {k : Nat} (h : k < cs.length) : (rest cs k).length = k + (cs.length - (k + 1)) := by
  unfold rest
  rw [List.length_append, List.length_take, List.length_drop]
  omega
theorem rest_not {cs : List Ch} {k : Nat} {c : Ch} (hn : (cs.map nmb).Nodup) (hc : cs[k]? = some c) : nmb c ∉ (rest cs k).map nmb := by
  have hk := (List.getElem?_eq_some_iff.1 hc).1
  have e : cs = cs.take k ++ c :: cs.drop (k + 1) := by
    have h2 : cs[k] = c := by rw [List.getElem?_eq_getElem hk] at hc; injection hc
    rw [← h2, ← List.drop_eq_getElem_cons hk, List.take_append_drop]
  rw [e, List.map_append, List.map_cons] at hn
  unfold rest
  rw [List.map_append, List.mem_append]
  have h1 := List.nodup_append.1 hn
  rintro (h | h)
  · exact h1.2.2 _ h _ (List.mem_cons_self ..) rfl
  · exact (List.nodup_cons.1 h1.2.1).1 h
theorem rest_wrong {u v : St} {cs : List Ch} {k : Nat} {c : Ch} (h : Canon (diffA u v) cs) (hc : cs[k]? = some c) : app u (makeF (rest cs k)) ≠ v := by
  intro e
  have h1 := congrFun e (nmb c)
  unfold app at h1
  rw [makeF_not (rest_not h.keys.nodup hc)] at h1
  dsimp only at h1
  have h2 := h.at' c (List.mem_of_getElem? hc)
  rw [(diff_none u v _).2 h1] at h2
  cases h2
theorem rest_sup {u v : St} {cs : List Ch} {k : Nat} {L L' : List (List UInt8)} (h : Canon (diffA u v) cs) (hu : ∀ y, (u y).isSome = true → y ∈ L) (hv : ∀ y, (v y).isSome = true → y ∈ L') : ∀ y, (app u (makeF (rest cs k)) y).isSome = true → y ∈ L ++ L' := by
  intro y hy
  rw [List.mem_append]
  unfold app at hy
  cases hq : makeF (rest cs k) y with
  | none => rw [hq] at hy; exact .inl (hu y hy)
  | some c =>
    rw [hq] at hy
    obtain ⟨h1, h2⟩ := makeF_mem hq
    have h3 := h.at' c (rest_mem h1)
    rw [h2] at h3
    refine .inr (hv y (diff_clear h3 ?_))
    intro e
    simp [e] at hy
theorem chL_one (l : List Ch) : ∀ u ∈ l.flatMap chL, u.oneCell' = true := by
  intro u hu
  obtain ⟨b, _, hb⟩ := List.mem_flatMap.1 hu
  simp only [chL, List.mem_cons, List.not_mem_nil, or_false] at hb
  rcases hb with rfl | rfl | rfl | rfl <;> rfl
theorem mayE_inC {c : Ch} (h : mayE c = none) : InC c := by
  cases hc : c.clear with
  | false => exact validB_in (mayE_valid h hc)
  | true =>
    unfold mayE at h
    split at h
    · cases h
    · split at h
      · unfold InC In8
        omega
      · cases h
theorem rest_may {u v : St} {cs : List Ch} {k : Nat} (h : Canon (diffA u v) cs) (ho : okA (diffA u v)) : ∀ c ∈ rest cs k, mayE c = none := fun c hc => (ho _ _ (h.at' c (rest_mem hc))).2
end Go.Proofs.YtmoeoomlggjaaaaGreatDoor
