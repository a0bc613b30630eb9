/- The document's norm of a timeline: the plain law. No program in sight. -/
import Derived.Test.YtmodofbelpaelaaDoorLineP
namespace Go.Proofs.YtmodofbelpaelaaDoor

/-- a list of days that holds all ends of pieces, and no others: what is said between them is what the pieces say -/
theorem norm_spec {M : Int} {l : List (Pc Int)} {ds : List Int} (hv : ∀ p ∈ l, ValidP M p) (hr : ds.Pairwise (· < ·)) (hm : ∀ x, x ∈ ds ↔ ∃ p ∈ l, x = p.f ∨ x = p.t) : Made M l (joinedL (joinP (fun n => valL l.reverse n) ds)) := by
  have hge : ∀ x ∈ ds, 0 ≤ x ∧ x ≤ M := fun x hx => by
    obtain ⟨p, hp, e⟩ := (hm x).1 hx
    have := hv p hp
    obtain ⟨h1, h2, h3⟩ := this
    omega
  cases ds with
  | nil =>
    have hl : l = [] := by
      cases l with
      | nil => rfl
      | cons p r => have := (hm p.f).2 ⟨p, List.mem_cons_self .., .inl rfl⟩; cases this
    subst hl
    exact Made.nil
  | cons a r =>
    have h0 := hge a (List.mem_cons_self ..)
    have hj := joinP_rise (g := fun n => valL l.reverse n) hr
    have hu : UpTo M (joinP (fun n => valL l.reverse n) (a :: r)) := joinP_upTo (fun x hx => (hge x hx).2)
    refine ⟨joinedL_canon (hj.mono h0.1) hu, fun n => ?_⟩
    rw [joinedL_val hj]
    have hout : (∀ p ∈ l, ¬ (p.f ≤ n ∧ n < p.t)) → valL l.reverse n = none := fun h => by
      have : ∀ m : List (Pc Int), (∀ p ∈ m, ¬ (p.f ≤ n ∧ n < p.t)) → valL m n = none := fun m => by
        induction m with
        | nil => intro _; rfl
        | cons p m ih => intro h; rw [valL, if_neg (h p (List.mem_cons_self ..))]; exact ih (fun q hq => h q (List.mem_cons_of_mem _ hq))
      exact this _ (fun p hp => h p (List.mem_reverse.1 hp))
    by_cases hn : a ≤ n
    · by_cases he : ∃ y ∈ r, n < y
      · refine joinP_val hr (fun x k hx hxk hno => ?_) hn he
        refine valL_same hxk (fun p hp => ⟨fun hh => hno p.f ((hm _).2 ⟨p, List.mem_reverse.1 hp, .inl rfl⟩) hh, fun hh => hno p.t ((hm _).2 ⟨p, List.mem_reverse.1 hp, .inr rfl⟩) hh⟩)
      · have hall : ∀ x ∈ a :: r, x ≤ n := fun x hx => by
          rcases List.mem_cons.1 hx with rfl | hx
          · exact hn
          · exact Int.not_lt.1 (fun h => he ⟨x, hx, h⟩)
        rw [UpTo.none (M := n) (joinP_upTo hall) (Int.le_refl _), hout (fun p hp hh => by
          have := hall p.t ((hm _).2 ⟨p, hp, .inr rfl⟩)
          omega)]
    · rw [Rise.none hj (by omega), hout (fun p hp hh => by
        have hx := (hm p.f).2 ⟨p, hp, .inl rfl⟩
        rcases List.mem_cons.1 hx with e | hx
        · omega
        · have := (List.pairwise_cons.1 hr).1 p.f hx; omega)]

end Go.Proofs.YtmodofbelpaelaaDoor
