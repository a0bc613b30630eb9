/- Sets of days: spans that touch or overlap are put together: the plain law. No program in sight. -/
import Derived.Test.YtmodofbelpaelaaDoorLineL
namespace Go.Proofs.YtmodofbelpaelaaDoor

/-- a span of days -/
def ValidS (M : Int) (p : Pc Unit) : Prop := 0 ≤ p.f ∧ p.f < p.t ∧ p.t ≤ M
/-- a day is in one of the spans -/
def hasD {α : Type} (l : List (Pc α)) (n : Int) : Prop := ∃ p ∈ l, p.f ≤ n ∧ n < p.t

section
variable {α : Type} {M n : Int} {l r : List (Pc α)} {p q : Pc α}
theorem hasD_nil : ¬ hasD ([] : List (Pc α)) n := fun ⟨_, h, _⟩ => by cases h
theorem hasD_cons : hasD (p :: l) n ↔ (p.f ≤ n ∧ n < p.t) ∨ hasD l n := by
  constructor
  · rintro ⟨x, hx, h⟩
    rcases List.mem_cons.1 hx with rfl | hx
    · exact .inl h
    · exact .inr ⟨x, hx, h⟩
  · rintro (h | ⟨x, hx, h⟩)
    · exact ⟨p, List.mem_cons_self .., h⟩
    · exact ⟨x, List.mem_cons_of_mem _ hx, h⟩
theorem hasD_append : hasD (l ++ r) n ↔ hasD l n ∨ hasD r n := by
  constructor
  · rintro ⟨x, hx, h⟩
    rcases List.mem_append.1 hx with hx | hx
    · exact .inl ⟨x, hx, h⟩
    · exact .inr ⟨x, hx, h⟩
  · rintro (⟨x, hx, h⟩ | ⟨x, hx, h⟩)
    · exact ⟨x, List.mem_append.2 (.inl hx), h⟩
    · exact ⟨x, List.mem_append.2 (.inr hx), h⟩
theorem hasD_perm (h : l.Perm r) : hasD l n ↔ hasD r n := by
  constructor
  · rintro ⟨x, hx, hh⟩; exact ⟨x, h.mem_iff.1 hx, hh⟩
  · rintro ⟨x, hx, hh⟩; exact ⟨x, h.mem_iff.2 hx, hh⟩
theorem valL_some : (valL l n).isSome = true ↔ hasD l n := by
  induction l with
  | nil => exact ⟨fun h => (by cases h), fun h => absurd h hasD_nil⟩
  | cons p r ih =>
    rw [hasD_cons, valL]
    by_cases h : p.f ≤ n ∧ n < p.t
    · rw [if_pos h]; exact ⟨fun _ => .inl h, fun _ => rfl⟩
    · rw [if_neg h, ih]; exact ⟨.inr, fun hh => hh.resolve_left h⟩
theorem valL_none : valL l n = none ↔ ¬ hasD l n := by
  rw [← valL_some]; cases valL l n <;> simp
end

theorem valU {l r : List (Pc Unit)} {n : Int} (h : hasD l n ↔ hasD r n) : valL l n = valL r n := by
  by_cases hl : hasD l n
  · have a := valL_some.2 hl
    have b := valL_some.2 (h.1 hl)
    cases e1 : valL l n with
    | none => rw [e1] at a; cases a
    | some u => cases e2 : valL r n with
      | none => rw [e2] at b; cases b
      | some v => rfl
  · rw [valL_none.2 hl, valL_none.2 (fun h' => hl (h.2 h'))]

/-- q is the last one; spans that begin by its end are put together with it -/
def mg (q : Pc Unit) : List (Pc Unit) → List (Pc Unit)
  | [] => [q]
  | p :: r => if p.f ≤ q.t then mg ⟨q.f, max q.t p.t, ()⟩ r else q :: mg p r
def mergedL : List (Pc Unit) → List (Pc Unit)
  | [] => []
  | p :: r => mg p r

section
variable {M n b : Int} {l r : List (Pc Unit)} {p q : Pc Unit}
theorem mg_join (h : p.f ≤ q.t) : mg q (p :: r) = mg ⟨q.f, max q.t p.t, ()⟩ r := by rw [mg, if_pos h]
theorem mg_keep (h : ¬ p.f ≤ q.t) : mg q (p :: r) = q :: mg p r := by rw [mg, if_neg h]
theorem mg_head (q : Pc Unit) (r : List (Pc Unit)) : ∃ x s, mg q r = x :: s ∧ x.f = q.f := by
  induction r generalizing q with
  | nil => exact ⟨q, [], rfl, rfl⟩
  | cons p r ih =>
    rw [mg]
    split
    · obtain ⟨x, s, h1, h2⟩ := ih ⟨q.f, max q.t p.t, ()⟩
      exact ⟨x, s, h1, h2⟩
    · exact ⟨q, _, rfl, rfl⟩
theorem mg_rise (hb : b ≤ q.f) (hq : q.f < q.t) (hv : ∀ p ∈ r, p.f < p.t) : Rise b (mg q r) := by
  induction r generalizing q b with
  | nil => exact ⟨hb, hq, trivial⟩
  | cons p r ih =>
    have hp := hv p (List.mem_cons_self ..)
    have hr := fun x hx => hv x (List.mem_cons_of_mem _ hx)
    rw [mg]
    split
    · exact ih (q := ⟨q.f, max q.t p.t, ()⟩) hb (by show q.f < max q.t p.t; omega) hr
    · exact ⟨hb, hq, ih (by omega) hp hr⟩
theorem mg_apart : Apart (mg q r) := by
  induction r generalizing q with
  | nil => exact ⟨fun x hx => (by cases hx), trivial⟩
  | cons p r ih =>
    rw [mg]
    split
    · exact ih
    · rename_i hne
      refine ⟨fun x hx hc => ?_, ih⟩
      obtain ⟨y, s, e, e1⟩ := mg_head p r
      rw [e] at hx
      cases hx
      exact hne (by omega)
theorem mg_upTo (hq : q.t ≤ M) (h : UpTo M r) : UpTo M (mg q r) := by
  induction r generalizing q with
  | nil => intro p hp; rcases List.mem_cons.1 hp with rfl | hp; exact hq; cases hp
  | cons p r ih =>
    have hp := h p (List.mem_cons_self ..)
    have hr : UpTo M r := fun x hx => h x (List.mem_cons_of_mem _ hx)
    rw [mg]
    split
    · exact ih (q := ⟨q.f, max q.t p.t, ()⟩) (by show max q.t p.t ≤ M; omega) hr
    · intro x hx
      rcases List.mem_cons.1 hx with rfl | hx
      · exact hq
      · exact ih hp hr x hx
theorem mg_has (hs : ∀ p ∈ r, q.f ≤ p.f) (hp : r.Pairwise (fun a b => a.f ≤ b.f)) : hasD (mg q r) n ↔ hasD (q :: r) n := by
  induction r generalizing q with
  | nil => exact Iff.rfl
  | cons p r ih =>
    have h0 := hs p (List.mem_cons_self ..)
    obtain ⟨h1, h2⟩ := List.pairwise_cons.1 hp
    rw [mg]
    split
    · rw [ih (q := ⟨q.f, max q.t p.t, ()⟩) (fun x hx => hs x (List.mem_cons_of_mem _ hx)) h2, hasD_cons, hasD_cons, hasD_cons]
      dsimp only
      constructor
      · rintro (h | h)
        · by_cases hn : n < q.t
          · exact .inl ⟨h.1, hn⟩
          · exact .inr (.inl ⟨by omega, by omega⟩)
        · exact .inr (.inr h)
      · rintro (h | h | h)
        · exact .inl ⟨h.1, by omega⟩
        · exact .inl ⟨by omega, by omega⟩
        · exact .inr h
    · rw [hasD_cons, ih h1 h2, hasD_cons (p := q)]
end

/-- a set of the days of l: the fewest spans -/
structure SetOf (M : Int) (l r : List (Pc Unit)) : Prop where
  canon : Canon M r
  has : ∀ n, hasD r n ↔ hasD l n
  len : r.length ≤ l.length

theorem SetOf.uniq {M : Int} {l r r' : List (Pc Unit)} (h : SetOf M l r) (h' : SetOf M l r') : r = r' := h.canon.ext h'.canon (fun n => valU ((h.has n).trans (h'.has n).symm))
theorem SetOf.nil {M : Int} : SetOf M [] [] := ⟨Canon.nil, fun _ => Iff.rfl, Nat.le_refl _⟩
theorem SetOf.self {M : Int} {r : List (Pc Unit)} (h : Canon M r) : SetOf M r r := ⟨h, fun _ => Iff.rfl, Nat.le_refl _⟩
theorem Canon.valid {M : Int} {r : List (Pc Unit)} (h : Canon M r) : ∀ p ∈ r, ValidS M p := fun p hp => ⟨(h.rise.mem hp).1, (h.rise.mem hp).2, h.upTo p hp⟩
theorem Canon.uniqD {M : Int} {r r' : List (Pc Unit)} (h : Canon M r) (h' : Canon M r') (he : ∀ n, hasD r n ↔ hasD r' n) : r = r' := h.ext h' (fun n => valU (he n))

theorem mg_len (q : Pc Unit) (r : List (Pc Unit)) : (mg q r).length ≤ r.length + 1 := by
  induction r generalizing q with
  | nil => exact Nat.le_refl _
  | cons p r ih =>
    rw [mg]
    split
    · have := ih ⟨q.f, max q.t p.t, ()⟩; simp only [List.length_cons]; omega
    · have := ih p; simp only [List.length_cons]; omega
theorem merged_len (l : List (Pc Unit)) : (mergedL l).length ≤ l.length := by
  cases l with
  | nil => exact Nat.le_refl _
  | cons p r => have := mg_len p r; simpa [mergedL] using this

/-- a sorted list's spans, put together -/
theorem merged_set {M : Int} {l r : List (Pc Unit)} (hp : r.Perm l) (hs : r.Pairwise (fun a b => a.f ≤ b.f)) (hv : ∀ p ∈ l, ValidS M p) : SetOf M l (mergedL r) := by
  have hv' : ∀ p ∈ r, ValidS M p := fun p h => hv p (hp.mem_iff.1 h)
  cases r with
  | nil => exact ⟨Canon.nil, fun n => hasD_perm hp, Nat.zero_le _⟩
  | cons p r =>
    obtain ⟨h1, h2⟩ := List.pairwise_cons.1 hs
    have v := hv' p (List.mem_cons_self ..)
    refine ⟨⟨mg_rise v.1 v.2.1 (fun x hx => (hv' x (List.mem_cons_of_mem _ hx)).2.1), mg_apart, mg_upTo v.2.2 (fun x hx => (hv' x (List.mem_cons_of_mem _ hx)).2.2)⟩, fun n => (mg_has h1 h2).trans (hasD_perm hp), ?_⟩
    rw [← hp.length_eq]
    exact merged_len (p :: r)

end Go.Proofs.YtmodofbelpaelaaDoor
