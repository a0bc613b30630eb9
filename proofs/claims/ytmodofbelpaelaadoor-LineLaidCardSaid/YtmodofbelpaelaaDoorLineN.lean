/- Two timelines joined: the plain law. No program in sight. -/
import Derived.Test.YtmodofbelpaelaaDoorLineM
namespace Go.Proofs.YtmodofbelpaelaaDoor

/-- what is said of all days -/
structure Days (ds : List Int) (M : Int) (l m : List (Pc Int)) : Prop where
  rise : ds.Pairwise (· < ·)
  mem : ∀ x, x ∈ ds ↔ x = 0 ∨ x = M ∨ (∃ p ∈ l, x = p.f ∨ x = p.t) ∨ (∃ p ∈ m, x = p.f ∨ x = p.t)

theorem Days.head {ds : List Int} {M : Int} {l m : List (Pc Int)} (h : Days ds M l m) (hM : 0 < M) (hl : Rise 0 l) (hm : Rise 0 m) : ∃ r, ds = 0 :: r ∧ M ∈ r := by
  have h0 : (0 : Int) ∈ ds := (h.mem 0).2 (.inl rfl)
  have h9 : M ∈ ds := (h.mem M).2 (.inr (.inl rfl))
  have hge : ∀ x ∈ ds, 0 ≤ x := fun x hx => by
    rcases (h.mem x).1 hx with rfl | rfl | ⟨p, hp, e⟩ | ⟨p, hp, e⟩
    · omega
    · omega
    · have := hl.mem hp; omega
    · have := hm.mem hp; omega
  cases ds with
  | nil => cases h0
  | cons a r =>
    obtain ⟨h1, _⟩ := List.pairwise_cons.1 h.rise
    have ha := hge a (List.mem_cons_self ..)
    have : a = 0 := by
      rcases List.mem_cons.1 h0 with e | e
      · exact e.symm
      · have := h1 0 e; omega
    subst this
    refine ⟨r, rfl, ?_⟩
    rcases List.mem_cons.1 h9 with e | e
    · omega
    · exact e

theorem Days.le {ds : List Int} {M : Int} {l m : List (Pc Int)} (h : Days ds M l m) (hM : 0 < M) (hl : Rise 0 l) (hm : Rise 0 m) (ul : UpTo M l) (um : UpTo M m) : ∀ x ∈ ds, 0 ≤ x ∧ x ≤ M := fun x hx => by
  rcases (h.mem x).1 hx with rfl | rfl | ⟨p, hp, e⟩ | ⟨p, hp, e⟩
  · omega
  · omega
  · have := hl.mem hp; have := ul p hp; omega
  · have := hm.mem hp; have := um p hp; omega

theorem join_spec {γ : Type} [DecidableEq γ] {ds : List Int} {M : Int} {l m : List (Pc Int)} (F : Option Int → Option Int → Option γ) (h : Days ds M l m) (hM : 0 < M) (hl : Rise 0 l) (hm : Rise 0 m) (ul : UpTo M l) (um : UpTo M m) :
    Canon M (joinedL (joinP (fun n => F (valL l n) (valL m n)) ds)) ∧ ∀ n, valL (joinedL (joinP (fun n => F (valL l n) (valL m n)) ds)) n = if 0 ≤ n ∧ n < M then F (valL l n) (valL m n) else none := by
  obtain ⟨r, rfl, hMr⟩ := h.head hM hl hm
  have hr := joinP_rise (g := fun n => F (valL l n) (valL m n)) h.rise
  have hu : UpTo M (joinP (fun n => F (valL l n) (valL m n)) (0 :: r)) := joinP_upTo (fun x hx => (h.le hM hl hm ul um x hx).2)
  refine ⟨joinedL_canon hr hu, fun n => ?_⟩
  rw [joinedL_val hr]
  by_cases hn : 0 ≤ n ∧ n < M
  · rw [if_pos hn]
    refine joinP_val h.rise (fun x n hx hxn hno => ?_) hn.1 ⟨M, hMr, hn.2⟩
    have hl' : valL l n = valL l x := valL_same hxn (fun p hp => ⟨fun hh => hno p.f ((h.mem _).2 (.inr (.inr (.inl ⟨p, hp, .inl rfl⟩)))) hh, fun hh => hno p.t ((h.mem _).2 (.inr (.inr (.inl ⟨p, hp, .inr rfl⟩)))) hh⟩)
    have hm' : valL m n = valL m x := valL_same hxn (fun p hp => ⟨fun hh => hno p.f ((h.mem _).2 (.inr (.inr (.inr ⟨p, hp, .inl rfl⟩)))) hh, fun hh => hno p.t ((h.mem _).2 (.inr (.inr (.inr ⟨p, hp, .inr rfl⟩)))) hh⟩)
    show F (valL l n) (valL m n) = F (valL l x) (valL m x)
    rw [hl', hm']
  · rw [if_neg hn]
    by_cases h0 : n < 0
    · exact Rise.none hr h0
    · exact UpTo.none hu (by omega)

/-- one laid over another -/
def overF (x y : Option Int) : Option Int := match x with | some v => some v | none => y

end Go.Proofs.YtmodofbelpaelaaDoor
