/- One piece laid over another, again and again: the plain law. No program in sight. -/
import Derived.Test.YtmodofbelpaelaaDoorLineN
namespace Go.Proofs.YtmodofbelpaelaaDoor

def ValidP (M : Int) (p : Pc Int) : Prop := 0 ≤ p.f ∧ p.f < p.t ∧ p.t ≤ M

theorem apart_start {b : Int} {l : List (Pc Int)} {p : Pc Int} (h : Rise b l) (ha : Apart l) (hp : p ∈ l) : valL l (p.f - 1) ≠ some p.v := by
  induction l generalizing b with
  | nil => cases hp
  | cons q s ih =>
    obtain ⟨h1, h2, h3⟩ := h
    rcases List.mem_cons.1 hp with rfl | hp'
    · rw [valL, if_neg (by omega), Rise.none h3 (by omega)]
      exact fun e => by cases e
    · have hpm := h3.mem hp'
      rw [valL]
      by_cases hq : q.f ≤ p.f - 1 ∧ p.f - 1 < q.t
      · rw [if_pos hq]
        intro e
        injection e with e
        cases s with
        | nil => cases hp'
        | cons x r =>
          rcases List.mem_cons.1 hp' with rfl | hx
          · exact ha.1 _ rfl ⟨by omega, e⟩
          · have := (h3.2.2).mem hx
            have := h3.2.1
            have := h3.1
            omega
      · rw [if_neg hq]
        exact ih h3 ha.2 hp'

theorem nodup_le : ∀ (a b : List Int), a.Nodup → (∀ x ∈ a, x ∈ b) → a.length ≤ b.length
  | [], _, _, _ => Nat.zero_le _
  | x :: a, b, hn, hs => by
    obtain ⟨h1, h2⟩ := List.nodup_cons.1 hn
    have hx := hs x (List.mem_cons_self ..)
    have := nodup_le a (b.erase x) h2 (fun y hy => (List.mem_erase_of_ne (fun e : y = x => h1 (by rw [← e]; exact hy))).2 (hs y (List.mem_cons_of_mem _ hy)))
    rw [List.length_erase_of_mem hx] at this
    have : 0 < b.length := List.length_pos_of_mem hx
    rw [List.length_cons]
    omega

theorem Rise.starts {b : Int} {l : List (Pc Int)} (h : Rise b l) : (l.map Pc.f).Nodup ∧ ∀ x ∈ l.map Pc.f, b ≤ x := by
  induction l generalizing b with
  | nil => exact ⟨List.nodup_nil, fun x hx => by cases hx⟩
  | cons p r ih =>
    obtain ⟨h1, h2, h3⟩ := h
    obtain ⟨i1, i2⟩ := ih h3
    rw [List.map_cons]
    refine ⟨List.nodup_cons.2 ⟨fun hm => by have := i2 _ hm; omega, i1⟩, fun x hx => ?_⟩
    rcases List.mem_cons.1 hx with rfl | hx
    · exact h1
    · have := i2 x hx; omega

/-- the fewest pieces are no more than the ends of those that say the same -/
theorem canon_len {M : Int} {r L : List (Pc Int)} (h : Canon M r) (he : ∀ n, valL r n = valL L n) : r.length ≤ 2 * L.length := by
  have hS : ∀ x ∈ r.map Pc.f, x ∈ L.flatMap (fun p => [p.f, p.t]) := fun x hx => by
    obtain ⟨p, hp, rfl⟩ := List.mem_map.1 hx
    refine Classical.byContradiction fun hno => ?_
    have h1 := h.rise.at hp (Int.le_refl _) (h.rise.mem hp).2
    refine apart_start h.rise h.apart hp ?_
    rw [he, ← valL_same (n := p.f) (by omega) (fun q hq => ?_), ← he, h1]
    refine ⟨fun hh => hno ?_, fun hh => hno ?_⟩
    · rw [List.mem_flatMap]; exact ⟨q, hq, by simp; left; omega⟩
    · rw [List.mem_flatMap]; exact ⟨q, hq, by simp; right; omega⟩
  have hlen : ∀ L : List (Pc Int), (L.flatMap (fun p => [p.f, p.t])).length = 2 * L.length := fun L => by
    induction L with
    | nil => rfl
    | cons p r ih => rw [List.flatMap_cons, List.length_append, ih]; simp; omega
  have := nodup_le _ _ h.rise.starts.1 hS
  rw [List.length_map, hlen] at this
  exact this

theorem over_spec {ds : List Int} {M : Int} {l m : List (Pc Int)} (h : Days ds M l m) (hM : 0 < M) (hl : Rise 0 l) (hm : Rise 0 m) (ul : UpTo M l) (um : UpTo M m) :
    Canon M (joinedL (joinP (fun n => overF (valL l n) (valL m n)) ds)) ∧ ∀ n, valL (joinedL (joinP (fun n => overF (valL l n) (valL m n)) ds)) n = overF (valL l n) (valL m n) := by
  obtain ⟨h1, h2⟩ := join_spec overF h hM hl hm ul um
  refine ⟨h1, fun n => ?_⟩
  rw [h2]
  by_cases hn : 0 ≤ n ∧ n < M
  · rw [if_pos hn]
  · rw [if_neg hn]
    have e : valL l n = none ∧ valL m n = none := by
      by_cases h0 : n < 0
      · exact ⟨hl.none h0, hm.none h0⟩
      · exact ⟨ul.none (by omega), um.none (by omega)⟩
    rw [e.1, e.2]; rfl

theorem over_one (p : Pc Int) (m : List (Pc Int)) (n : Int) : overF (valL [p] n) (valL m n) = valL (p :: m) n := by
  rw [valL, valL, valL]
  by_cases h : p.f ≤ n ∧ n < p.t
  · rw [if_pos h, if_pos h]; rfl
  · rw [if_neg h, if_neg h]; rfl

theorem valid_one {M : Int} {p : Pc Int} (h : ValidP M p) : Rise 0 [p] ∧ UpTo M [p] := ⟨⟨h.1, h.2.1, trivial⟩, fun q hq => by rw [List.mem_singleton.1 hq]; exact h.2.2⟩

/-- what a timeline that is made of pieces says -/
structure Made (M : Int) (l r : List (Pc Int)) : Prop where
  canon : Canon M r
  val : ∀ n, valL r n = valL l.reverse n

theorem Made.len {M : Int} {l r : List (Pc Int)} (h : Made M l r) : r.length ≤ 2 * l.length := by
  have := canon_len h.canon h.val
  rwa [List.length_reverse] at this
theorem Made.nil {M : Int} : Made M [] [] := ⟨Canon.nil, fun _ => rfl⟩
theorem Made.uniq {M : Int} {l r r' : List (Pc Int)} (h : Made M l r) (h' : Made M l r') : r = r' := h.canon.ext h'.canon (fun n => by rw [h.val, h'.val])

theorem Made.snoc {M : Int} {l r r' : List (Pc Int)} {k : Nat} {p : Pc Int} (h : Made M (l.take k) r) (hp : l[k]? = some p) (hc : Canon M r') (hv : ∀ n, valL r' n = overF (valL [p] n) (valL r n)) : Made M (l.take (k + 1)) r' := by
  refine ⟨hc, fun n => ?_⟩
  have ht : l.take (k + 1) = l.take k ++ [p] := by rw [List.take_add_one, hp]; rfl
  rw [hv, over_one, ht, List.reverse_append, List.reverse_cons, List.reverse_nil, List.nil_append, List.cons_append, List.nil_append, valL, valL, h.val]

end Go.Proofs.YtmodofbelpaelaaDoor
