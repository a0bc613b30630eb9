/- Two sets of days: both, in both, less: the plain law. No program in sight. -/
import Derived.Test.YtmodofbelpaelaaDoorDayL
namespace Go.Proofs.YtmodofbelpaelaaDoor

/-- the days of a span that are in a list of spans -/
def andG (a : Pc Unit) (m : List (Pc Unit)) : List (Pc Unit) := m.flatMap (fun b => if max a.f b.f < min a.t b.t then [⟨max a.f b.f, min a.t b.t, ()⟩] else [])
def andP (l m : List (Pc Unit)) : List (Pc Unit) := l.flatMap (fun a => andG a m)
/-- the days from f on, ahead of t, that are in none of the list's spans -/
def lessG (f t : Int) : List (Pc Unit) → List (Pc Unit)
  | [] => if f < t then [⟨f, t, ()⟩] else []
  | b :: r => if b.t ≤ f ∨ t ≤ b.f then lessG f t r else (if f < b.f then [⟨f, b.f, ()⟩] else []) ++ lessG (min b.t t) t r
def lessP (l m : List (Pc Unit)) : List (Pc Unit) := l.flatMap (fun a => lessG a.f a.t m)

theorem hasD_flatMap {α : Type} {l : List α} {g : α → List (Pc Unit)} {n : Int} : hasD (l.flatMap g) n ↔ ∃ a ∈ l, hasD (g a) n := by
  constructor
  · rintro ⟨p, hp, h⟩
    obtain ⟨a, ha, hpa⟩ := List.mem_flatMap.1 hp
    exact ⟨a, ha, p, hpa, h⟩
  · rintro ⟨a, ha, p, hp, h⟩
    exact ⟨p, List.mem_flatMap.2 ⟨a, ha, hp⟩, h⟩
theorem hasD_one {f t n : Int} : hasD [(⟨f, t, ()⟩ : Pc Unit)] n ↔ f ≤ n ∧ n < t := by
  rw [hasD_cons]
  exact ⟨fun h => h.resolve_right hasD_nil, .inl⟩

theorem andP_has {l m : List (Pc Unit)} {n : Int} : hasD (andP l m) n ↔ hasD l n ∧ hasD m n := by
  unfold andP
  rw [hasD_flatMap]
  constructor
  · rintro ⟨a, ha, h⟩
    unfold andG at h
    rw [hasD_flatMap] at h
    obtain ⟨b, hb, h⟩ := h
    split at h
    · rw [hasD_one] at h
      exact ⟨⟨a, ha, by omega, by omega⟩, ⟨b, hb, by omega, by omega⟩⟩
    · exact absurd h hasD_nil
  · rintro ⟨⟨a, ha, h1, h2⟩, ⟨b, hb, h3, h4⟩⟩
    refine ⟨a, ha, ?_⟩
    unfold andG
    rw [hasD_flatMap]
    refine ⟨b, hb, ?_⟩
    rw [if_pos (by omega), hasD_one]
    omega
theorem andP_valid {M : Int} {l m : List (Pc Unit)} (hl : ∀ p ∈ l, ValidS M p) (hm : ∀ p ∈ m, ValidS M p) : ∀ p ∈ andP l m, ValidS M p := by
  intro p hp
  obtain ⟨a, ha, h⟩ := List.mem_flatMap.1 hp
  obtain ⟨b, hb, h⟩ := List.mem_flatMap.1 h
  obtain ⟨a1, a2, a3⟩ := hl a ha
  obtain ⟨b1, b2, b3⟩ := hm b hb
  split at h
  · rename_i hlt
    obtain rfl := List.mem_singleton.1 h
    exact ⟨by show 0 ≤ max a.f b.f; omega, hlt, by show min a.t b.t ≤ M; omega⟩
  · cases h
theorem andG_len (a : Pc Unit) (m : List (Pc Unit)) : (andG a m).length ≤ m.length := by
  induction m with
  | nil => exact Nat.le_refl _
  | cons b r ih =>
    unfold andG at ih ⊢
    rw [List.flatMap_cons, List.length_append, List.length_cons]
    split
    · simp only [List.length_singleton]; omega
    · simp only [List.length_nil]; omega
theorem andP_len (l m : List (Pc Unit)) : (andP l m).length ≤ l.length * m.length := by
  induction l with
  | nil => simp [andP]
  | cons a r ih =>
    have := andG_len a m
    unfold andP at ih ⊢
    rw [List.flatMap_cons, List.length_append, List.length_cons, Nat.add_mul]
    omega

theorem lessG_has {b : Int} {m : List (Pc Unit)} (h : Rise b m) : ∀ {f t n : Int}, hasD (lessG f t m) n ↔ (f ≤ n ∧ n < t) ∧ ¬ hasD m n := by
  induction m generalizing b with
  | nil =>
    intro f t n
    rw [lessG]
    split
    · rw [hasD_one]; exact ⟨fun h => ⟨h, hasD_nil⟩, fun h => h.1⟩
    · exact ⟨fun h => absurd h hasD_nil, fun h => by omega⟩
  | cons p r ih =>
    intro f t n
    obtain ⟨h1, h2, h3⟩ := h
    have hr : hasD r n → p.t ≤ n := fun ⟨x, hx, hx1, _⟩ => by have := h3.mem hx; omega
    rw [lessG, hasD_cons]
    split
    · rw [ih h3]
      constructor
      · rintro ⟨a, c⟩; exact ⟨a, fun hh => hh.elim (fun _ => by omega) c⟩
      · rintro ⟨a, c⟩; exact ⟨a, fun hh => c (.inr hh)⟩
    · rw [hasD_append, ih h3]
      constructor
      · rintro (hh | ⟨a, c⟩)
        · split at hh
          · rw [hasD_one] at hh
            exact ⟨by omega, fun hc => hc.elim (fun _ => by omega) (fun hq => by have := hr hq; omega)⟩
          · exact absurd hh hasD_nil
        · exact ⟨by omega, fun hc => hc.elim (fun _ => by omega) c⟩
      · rintro ⟨a, c⟩
        have c1 : ¬ (p.f ≤ n ∧ n < p.t) := fun hh => c (.inl hh)
        by_cases hn : n < p.f
        · refine .inl ?_
          rw [if_pos (by omega), hasD_one]
          omega
        · exact .inr ⟨by omega, fun hh => c (.inr hh)⟩
theorem lessP_has {b : Int} {l m : List (Pc Unit)} {n : Int} (h : Rise b m) : hasD (lessP l m) n ↔ hasD l n ∧ ¬ hasD m n := by
  unfold lessP
  rw [hasD_flatMap]
  constructor
  · rintro ⟨a, ha, hh⟩
    rw [lessG_has h] at hh
    exact ⟨⟨a, ha, hh.1⟩, hh.2⟩
  · rintro ⟨⟨a, ha, h1⟩, h2⟩
    exact ⟨a, ha, (lessG_has h).2 ⟨h1, h2⟩⟩
theorem lessG_valid {M : Int} {m : List (Pc Unit)} (hm : ∀ p ∈ m, ValidS M p) : ∀ {f t : Int}, 0 ≤ f → t ≤ M → ∀ p ∈ lessG f t m, ValidS M p := by
  induction m with
  | nil =>
    intro f t hf ht p hp
    rw [lessG] at hp
    split at hp
    · obtain rfl := List.mem_singleton.1 hp
      rename_i hlt
      exact ⟨hf, hlt, ht⟩
    · cases hp
  | cons b r ih =>
    intro f t hf ht p hp
    obtain ⟨b1, b2, b3⟩ := hm b (List.mem_cons_self ..)
    have hr := fun x hx => hm x (List.mem_cons_of_mem _ hx)
    rw [lessG] at hp
    split at hp
    · exact ih hr hf ht p hp
    · rcases List.mem_append.1 hp with hp | hp
      · by_cases hlt : f < b.f
        · rw [if_pos hlt] at hp
          obtain rfl := List.mem_singleton.1 hp
          exact ⟨hf, hlt, by show b.f ≤ M; omega⟩
        · rw [if_neg hlt] at hp
          cases hp
      · exact ih hr (by omega) ht p hp
theorem lessP_valid {M : Int} {l m : List (Pc Unit)} (hl : ∀ p ∈ l, ValidS M p) (hm : ∀ p ∈ m, ValidS M p) : ∀ p ∈ lessP l m, ValidS M p := by
  intro p hp
  obtain ⟨a, ha, h⟩ := List.mem_flatMap.1 hp
  exact lessG_valid hm (hl a ha).1 (hl a ha).2.2 p h
theorem lessG_len (f t : Int) (m : List (Pc Unit)) : (lessG f t m).length ≤ m.length + 1 := by
  induction m generalizing f with
  | nil => rw [lessG]; split <;> simp
  | cons b r ih =>
    rw [lessG]
    split
    · have := ih f; simp only [List.length_cons]; omega
    · have := ih (min b.t t)
      rw [List.length_append, List.length_cons]
      split
      · simp only [List.length_singleton]; omega
      · simp only [List.length_nil]; omega
theorem lessP_len (l m : List (Pc Unit)) : (lessP l m).length ≤ l.length * (m.length + 1) := by
  induction l with
  | nil => simp [lessP]
  | cons a r ih =>
    have := lessG_len a.f a.t m
    unfold lessP at ih ⊢
    rw [List.flatMap_cons, List.length_append, List.length_cons, Nat.add_mul]
    omega

end Go.Proofs.YtmodofbelpaelaaDoor
