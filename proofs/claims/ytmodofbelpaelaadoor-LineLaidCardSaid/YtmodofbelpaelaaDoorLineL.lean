/- Timelines: the plain law. No program in sight. -/
namespace Go.Proofs.YtmodofbelpaelaaDoor

/-- days from f on, ahead of t, that have the value v -/
structure Pc (α : Type) where
  f : Int
  t : Int
  v : α

/-- the value of a day: of the first piece that has it -/
def valL {α : Type} : List (Pc α) → Int → Option α
  | [], _ => none
  | p :: r, n => if p.f ≤ n ∧ n < p.t then some p.v else valL r n
def Rise {α : Type} (b : Int) : List (Pc α) → Prop
  | [] => True
  | p :: r => b ≤ p.f ∧ p.f < p.t ∧ Rise p.t r
/-- pieces that touch have unlike values -/
def Apart {α : Type} : List (Pc α) → Prop
  | [] => True
  | p :: r => (∀ q, r.head? = some q → ¬ (p.t = q.f ∧ p.v = q.v)) ∧ Apart r
def UpTo {α : Type} (M : Int) (l : List (Pc α)) : Prop := ∀ p ∈ l, p.t ≤ M
/-- the pieces of a timeline: they rise from 0 to M, the fewest -/
structure Canon {α : Type} (M : Int) (l : List (Pc α)) : Prop where
  rise : Rise 0 l
  apart : Apart l
  upTo : UpTo M l

section
variable {α : Type} {b M n : Int} {l r : List (Pc α)} {p q : Pc α}
theorem Rise.mono {b' : Int} (h : Rise b l) (hb : b' ≤ b) : Rise b' l := by
  cases l with
  | nil => trivial
  | cons p r => exact ⟨by have := h.1; omega, h.2⟩
theorem Rise.none (h : Rise b l) (hn : n < b) : valL l n = none := by
  induction l generalizing b with
  | nil => rfl
  | cons p r ih =>
    obtain ⟨h1, h2, h3⟩ := h
    rw [valL, if_neg (by omega)]
    exact ih h3 (by omega)
theorem UpTo.none (h : UpTo M l) (hn : M ≤ n) : valL l n = none := by
  induction l with
  | nil => rfl
  | cons p r ih =>
    have := h p (List.mem_cons_self ..)
    rw [valL, if_neg (by omega)]
    exact ih (fun q hq => h q (List.mem_cons_of_mem _ hq))
theorem Canon.nil : Canon (α := α) M [] := ⟨trivial, trivial, fun p hp => by cases hp⟩
theorem Rise.mem (h : Rise b l) (hp : p ∈ l) : b ≤ p.f ∧ p.f < p.t := by
  induction l generalizing b with
  | nil => cases hp
  | cons q r ih =>
    obtain ⟨h1, h2, h3⟩ := h
    rcases List.mem_cons.1 hp with rfl | hp
    · exact ⟨h1, h2⟩
    · have := ih h3 hp; omega
theorem Rise.at (h : Rise b l) (hp : p ∈ l) (h1 : p.f ≤ n) (h2 : n < p.t) : valL l n = some p.v := by
  induction l generalizing b with
  | nil => cases hp
  | cons q r ih =>
    obtain ⟨a1, a2, a3⟩ := h
    rw [valL]
    rcases List.mem_cons.1 hp with rfl | hp
    · rw [if_pos ⟨h1, h2⟩]
    · have := a3.mem hp
      rw [if_neg (by omega)]
      exact ih a3 hp

/-- two lists of fewest pieces that say the same are one -/
theorem valL_ext {b b' : Int} {l l' : List (Pc α)} (h : Rise b l) (ha : Apart l) (h' : Rise b' l') (ha' : Apart l') (he : ∀ n, valL l n = valL l' n) : l = l' := by
  induction l generalizing b b' l' with
  | nil =>
    cases l' with
    | nil => rfl
    | cons q s =>
      have := he q.f
      rw [valL, valL, if_pos ⟨Int.le_refl _, h'.2.1⟩] at this
      cases this
  | cons p r ih =>
    cases l' with
    | nil =>
      have := he p.f
      rw [valL, valL, if_pos ⟨Int.le_refl _, h.2.1⟩] at this
      cases this
    | cons q s =>
      obtain ⟨p1, p2, p3⟩ := h
      obtain ⟨q1, q2, q3⟩ := h'
      have hf : p.f = q.f := by
        rcases Int.lt_trichotomy p.f q.f with hlt | heq | hgt
        · have e := he p.f
          rw [valL, if_pos ⟨Int.le_refl _, p2⟩, Rise.none (b := q.f) (show Rise q.f (q :: s) from ⟨Int.le_refl _, q2, q3⟩) hlt] at e
          cases e
        · exact heq
        · have e := he q.f
          rw [Rise.none (b := p.f) (show Rise p.f (p :: r) from ⟨Int.le_refl _, p2, p3⟩) hgt, valL, if_pos ⟨Int.le_refl _, q2⟩] at e
          cases e
      have hv : p.v = q.v := by
        have e := he p.f
        rw [valL, valL, if_pos ⟨Int.le_refl _, p2⟩, if_pos ⟨by omega, by omega⟩] at e
        injection e
      have key : ∀ {x y : Pc α} {u z : List (Pc α)}, Rise x.t u → Apart (x :: u) → (∀ n, valL (x :: u) n = valL (y :: z) n) → x.f = y.f → x.v = y.v → x.f < x.t → ¬ x.t < y.t := by
        intro x y u z hr hap hval hxy hxv hx hlt
        have e := hval x.t
        rw [valL, valL, if_neg (by omega), if_pos ⟨by omega, hlt⟩] at e
        cases u with
        | nil => cases e
        | cons w v =>
          obtain ⟨w1, w2, w3⟩ := hr
          rw [valL] at e
          by_cases hw : w.f ≤ x.t ∧ x.t < w.t
          · rw [if_pos hw] at e
            injection e with e
            exact hap.1 w rfl ⟨by omega, by rw [hxv, e]⟩
          · rw [if_neg hw, Rise.none w3 (by omega)] at e
            cases e
      have ht : p.t = q.t := by
        have k1 := key p3 ha he hf hv p2
        have k2 := key q3 ha' (fun n => (he n).symm) hf.symm hv.symm q2
        omega
      have hrs : r = s := by
        refine ih p3 ha.2 q3 ha'.2 (fun n => ?_)
        by_cases hn : n < p.t
        · rw [Rise.none p3 hn, Rise.none q3 (by omega)]
        · have e := he n
          rw [valL, valL, if_neg (by omega), if_neg (by omega)] at e
          exact e
      cases p; cases q
      simp only at hf hv ht
      rw [hf, hv, ht, hrs]
theorem Canon.ext {l l' : List (Pc α)} (h : Canon M l) (h' : Canon M l') (he : ∀ n, valL l n = valL l' n) : l = l' := valL_ext h.rise h.apart h'.rise h'.apart he

/-- where no piece begins or ends between two days, they have one value -/
theorem valL_same {a : Int} (han : a ≤ n) (h : ∀ p ∈ l, ¬ (a < p.f ∧ p.f ≤ n) ∧ ¬ (a < p.t ∧ p.t ≤ n)) : valL l n = valL l a := by
  induction l with
  | nil => rfl
  | cons p r ih =>
    obtain ⟨h1, h2⟩ := h p (List.mem_cons_self ..)
    rw [valL, valL, ih (fun q hq => h q (List.mem_cons_of_mem _ hq))]
    by_cases hp : p.f ≤ n ∧ n < p.t
    · rw [if_pos hp, if_pos (by omega)]
    · rw [if_neg hp, if_neg (by omega)]
theorem valL_append (l r : List (Pc α)) (n : Int) : valL (l ++ r) n = (match valL l n with | some v => some v | none => valL r n) := by
  induction l with
  | nil => rfl
  | cons p l ih =>
    rw [List.cons_append, valL, valL]
    split
    · rfl
    · exact ih
/-- in pieces that rise it does not matter which one is asked first -/
theorem Rise.rev (h : Rise b l) (n : Int) : valL l.reverse n = valL l n := by
  induction l generalizing b with
  | nil => rfl
  | cons p r ih =>
    obtain ⟨h1, h2, h3⟩ := h
    rw [List.reverse_cons, valL_append, ih h3, valL, valL, valL]
    by_cases hp : p.f ≤ n ∧ n < p.t
    · rw [if_pos hp, if_pos hp, Rise.none h3 hp.2]
    · rw [if_neg hp, if_neg hp]
      cases valL r n <;> rfl

/-- pieces that touch and have one value are put together; q is the last one -/
def jc [DecidableEq α] (q : Pc α) : List (Pc α) → List (Pc α)
  | [] => [q]
  | p :: r => if q.t = p.f ∧ q.v = p.v then jc ⟨q.f, p.t, q.v⟩ r else q :: jc p r
def joinedL [DecidableEq α] : List (Pc α) → List (Pc α)
  | [] => []
  | p :: r => jc p r
theorem jc_join [DecidableEq α] (h : q.t = p.f ∧ q.v = p.v) : jc q (p :: r) = jc ⟨q.f, p.t, q.v⟩ r := by rw [jc, if_pos h]
theorem jc_keep [DecidableEq α] (h : ¬ (q.t = p.f ∧ q.v = p.v)) : jc q (p :: r) = q :: jc p r := by rw [jc, if_neg h]
theorem jc_head [DecidableEq α] (q : Pc α) (r : List (Pc α)) : ∃ x s, jc q r = x :: s ∧ x.f = q.f ∧ x.v = q.v := by
  induction r generalizing q with
  | nil => exact ⟨q, [], rfl, rfl, rfl⟩
  | cons p r ih =>
    rw [jc]
    split
    · obtain ⟨x, s, h1, h2, h3⟩ := ih ⟨q.f, p.t, q.v⟩
      exact ⟨x, s, h1, h2, h3⟩
    · exact ⟨q, _, rfl, rfl, rfl⟩
theorem jc_rise [DecidableEq α] (hb : b ≤ q.f) (hq : q.f < q.t) (h : Rise q.t r) : Rise b (jc q r) := by
  induction r generalizing q b with
  | nil => exact ⟨hb, hq, trivial⟩
  | cons p r ih =>
    obtain ⟨h1, h2, h3⟩ := h
    rw [jc]
    split
    · exact ih (q := ⟨q.f, p.t, q.v⟩) hb (by show q.f < p.t; omega) h3
    · exact ⟨hb, hq, ih h1 h2 h3⟩
theorem jc_apart [DecidableEq α] : Apart (jc q r) := by
  induction r generalizing q with
  | nil => exact ⟨fun x hx => (by cases hx), trivial⟩
  | cons p r ih =>
    rw [jc]
    split
    · exact ih
    · rename_i hne
      refine ⟨fun x hx hc => ?_, ih⟩
      obtain ⟨y, s, e, e1, e2⟩ := jc_head p r
      rw [e] at hx
      cases hx
      exact hne ⟨by omega, by rw [hc.2, e2]⟩
theorem jc_val [DecidableEq α] (hq : q.f < q.t) (h : Rise q.t r) : valL (jc q r) n = valL (q :: r) n := by
  induction r generalizing q with
  | nil => rfl
  | cons p r ih =>
    obtain ⟨h1, h2, h3⟩ := h
    rw [jc]
    split
    · rename_i he
      rw [ih (q := ⟨q.f, p.t, q.v⟩) (by show q.f < p.t; omega) h3]
      simp only [valL]
      by_cases a : q.f ≤ n ∧ n < p.t
      · rw [if_pos a]
        by_cases c : q.f ≤ n ∧ n < q.t
        · rw [if_pos c]
        · rw [if_neg c, if_pos (by omega), he.2]
      · rw [if_neg a, if_neg (by omega), if_neg (by omega)]
    · rw [valL, ih h2 h3]
      rfl
theorem jc_upTo [DecidableEq α] (hq : q.t ≤ M) (h : UpTo M r) : UpTo M (jc q r) := by
  induction r generalizing q with
  | nil => intro p hp; rcases List.mem_cons.1 hp with rfl | hp; exact hq; cases hp
  | cons p r ih =>
    have hp := h p (List.mem_cons_self ..)
    have hr : UpTo M r := fun x hx => h x (List.mem_cons_of_mem _ hx)
    rw [jc]
    split
    · exact ih (q := ⟨q.f, p.t, q.v⟩) hp hr
    · intro x hx
      rcases List.mem_cons.1 hx with rfl | hx
      · exact hq
      · exact ih hp hr x hx
theorem joinedL_canon [DecidableEq α] (h : Rise 0 l) (hM : UpTo M l) : Canon M (joinedL l) := by
  cases l with
  | nil => exact Canon.nil
  | cons p r => exact ⟨jc_rise h.1 h.2.1 h.2.2, jc_apart, jc_upTo (hM p (List.mem_cons_self ..)) (fun x hx => hM x (List.mem_cons_of_mem _ hx))⟩
theorem joinedL_val [DecidableEq α] (h : Rise b l) : valL (joinedL l) n = valL l n := by
  cases l with
  | nil => rfl
  | cons p r => exact jc_val h.2.1 h.2.2
end

/-- a piece from each of the days to the next one -/
def joinP {γ : Type} (g : Int → Option γ) : List Int → List (Pc γ)
  | [] => []
  | a :: r => match r with
    | [] => []
    | c :: _ => (match g a with | some v => [⟨a, c, v⟩] | none => []) ++ joinP g r
section
variable {γ : Type} {g : Int → Option γ} {n : Int} {ds : List Int}
theorem joinP_cons (a c : Int) (r : List Int) : joinP g (a :: c :: r) = (match g a with | some v => [⟨a, c, v⟩] | none => []) ++ joinP g (c :: r) := by rw [joinP]
theorem joinP_rise {a : Int} {r : List Int} (h : (a :: r).Pairwise (· < ·)) : Rise a (joinP g (a :: r)) := by
  induction r generalizing a with
  | nil => exact trivial
  | cons c r ih =>
    have hac : a < c := (List.pairwise_cons.1 h).1 c (List.mem_cons_self ..)
    have hr := ih (List.pairwise_cons.1 h).2
    rw [joinP_cons]
    split
    · exact ⟨Int.le_refl _, hac, hr⟩
    · exact hr.mono (by omega)
theorem joinP_upTo {M : Int} (h : ∀ x ∈ ds, x ≤ M) : UpTo M (joinP g ds) := by
  induction ds with
  | nil => intro p hp; cases hp
  | cons a r ih =>
    cases r with
    | nil => intro p hp; cases hp
    | cons c r =>
      have hi := ih (fun x hx => h x (List.mem_cons_of_mem _ hx))
      rw [joinP_cons]
      intro p hp
      rcases List.mem_append.1 hp with hp | hp
      · split at hp
        · rcases List.mem_cons.1 hp with rfl | hp
          · exact h c (by simp)
          · cases hp
        · cases hp
      · exact hi p hp
/-- between its first and its last day it says what g says, where g turns at days of the list alone -/
theorem joinP_val {a : Int} {r : List Int} (h : (a :: r).Pairwise (· < ·)) (hg : ∀ x n, x ∈ a :: r → x ≤ n → (∀ y ∈ a :: r, ¬ (x < y ∧ y ≤ n)) → g n = g x) (ha : a ≤ n) (hn : ∃ y ∈ r, n < y) : valL (joinP g (a :: r)) n = g n := by
  induction r generalizing a with
  | nil => obtain ⟨y, hy, _⟩ := hn; cases hy
  | cons c r ih =>
    obtain ⟨h1, h2⟩ := List.pairwise_cons.1 h
    have hac : a < c := h1 c (List.mem_cons_self ..)
    have hcr := List.pairwise_cons.1 h2
    rw [joinP_cons]
    by_cases hc : n < c
    · have hga : g n = g a := hg a n (List.mem_cons_self ..) ha (fun y hy hay => by
        rcases List.mem_cons.1 hy with rfl | hy
        · omega
        · rcases List.mem_cons.1 hy with rfl | hy
          · omega
          · have := hcr.1 y hy; omega)
      rw [hga]
      split
      · rename_i v hv
        rw [List.cons_append, valL, if_pos ⟨ha, hc⟩, hv]
      · rename_i hv
        rw [List.nil_append, Rise.none (joinP_rise h2) hc, hv]
    · have hi : valL (joinP g (c :: r)) n = g n := ih h2 (fun x m hx hxm hy => hg x m (List.mem_cons_of_mem _ hx) hxm (fun y hym => by
        rcases List.mem_cons.1 hym with rfl | hym
        · intro hh
          have := hcr.1 x
          rcases List.mem_cons.1 hx with rfl | hx
          · omega
          · have := this hx; omega
        · exact hy y hym)) (by omega) (by
        obtain ⟨y, hy, hny⟩ := hn
        rcases List.mem_cons.1 hy with rfl | hy
        · omega
        · exact ⟨y, hy, hny⟩)
      split
      · rw [List.cons_append, valL, if_neg (by dsimp only; omega)]
        exact hi
      · exact hi
end

/-- the least day above n at which something changes -/
def nextL {α : Type} (M : Int) : List (Pc α) → Int → Option Int
  | [], _ => none
  | p :: r, n => if n < p.f then some p.f else if n < p.t then (if p.t = M then none else some p.t) else nextL M r n
/-- the document's -/
def nextR {α : Type} (M : Int) : List (Pc α) → Int → Option Int
  | [], _ => none
  | p :: r, n => if n < p.f then some p.f else if (∀ q, r.head? = some q → p.t < q.f) ∧ n < p.t ∧ p.t < M then some p.t else nextR M r n

section
variable {α : Type} {b M n : Int} {l r : List (Pc α)} {p q : Pc α}
theorem nextR_eq (h : Rise b l) (hM : UpTo M l) (n : Int) : nextR M l n = nextL M l n := by
  induction l generalizing b with
  | nil => rfl
  | cons p r ih =>
    obtain ⟨h1, h2, h3⟩ := h
    have hp := hM p (List.mem_cons_self ..)
    have hr : UpTo M r := fun x hx => hM x (List.mem_cons_of_mem _ hx)
    rw [nextR, nextL]
    by_cases a : n < p.f
    · rw [if_pos a, if_pos a]
    · rw [if_neg a, if_neg a]
      by_cases c : n < p.t
      · rw [if_pos c]
        cases r with
        | nil =>
          by_cases d : p.t = M
          · rw [if_pos d, if_neg (by omega)]; rfl
          · rw [if_neg d, if_pos ⟨fun q hq => (by cases hq), c, by omega⟩]
        | cons q s =>
          have hq := hr q (List.mem_cons_self ..)
          obtain ⟨q1, q2, q3⟩ := h3
          rw [if_neg (show ¬ p.t = M by omega)]
          by_cases d : p.t < q.f
          · rw [if_pos ⟨fun x hx => by cases hx; exact d, c, by omega⟩]
          · rw [if_neg (fun hh => d (hh.1 q rfl)), nextR, if_pos (by omega), show q.f = p.t by omega]
      · rw [if_neg c, if_neg (fun hh => c hh.2.1)]
        exact ih h3 hr
theorem nextL_gt {k : Int} (h : nextL M l n = some k) : n < k := by
  induction l with
  | nil => cases h
  | cons p r ih =>
    rw [nextL] at h
    split at h
    · cases h; assumption
    · split at h
      · split at h
        · cases h
        · cases h; assumption
      · exact ih h
/-- at the next change the value is another one -/
theorem nextL_turns {k : Int} (hr : Rise b l) (ha : Apart l) (h : nextL M l n = some k) : valL l k ≠ valL l n := by
  induction l generalizing b with
  | nil => cases h
  | cons p r ih =>
    obtain ⟨h1, h2, h3⟩ := hr
    rw [nextL] at h
    by_cases a : n < p.f
    · rw [if_pos a] at h
      cases h
      rw [Rise.none (b := p.f) (l := p :: r) ⟨Int.le_refl _, h2, h3⟩ a, valL, if_pos ⟨Int.le_refl _, h2⟩]
      exact fun hh => by cases hh
    · rw [if_neg a] at h
      by_cases c : n < p.t
      · rw [if_pos c] at h
        split at h
        · cases h
        · cases h
          rw [valL, if_neg (by omega), valL, if_pos (by omega)]
          cases r with
          | nil => exact fun hh => by cases hh
          | cons q s =>
            obtain ⟨q1, q2, q3⟩ := h3
            rw [valL]
            by_cases d : q.f ≤ p.t ∧ p.t < q.t
            · rw [if_pos d]
              intro hh
              injection hh with hh
              exact ha.1 q rfl ⟨by omega, hh.symm⟩
            · rw [if_neg d, Rise.none q3 (by omega)]
              exact fun hh => by cases hh
      · rw [if_neg c] at h
        have hk := nextL_gt h
        rw [valL, if_neg (by omega), valL, if_neg (by omega)]
        exact ih h3 ha.2 h
/-- ahead of the next change, and ahead of the end of days, it is the same -/
theorem nextL_stays {m : Int} (hr : Rise b l) (hM : UpTo M l) (hm : n ≤ m) (hk : ∀ k, nextL M l n = some k → m < k) (hmM : m < M) : valL l m = valL l n := by
  induction l generalizing b with
  | nil => rfl
  | cons p r ih =>
    obtain ⟨h1, h2, h3⟩ := hr
    have hp := hM p (List.mem_cons_self ..)
    have hr' : UpTo M r := fun x hx => hM x (List.mem_cons_of_mem _ hx)
    rw [nextL] at hk
    by_cases a : n < p.f
    · rw [if_pos a] at hk
      have := hk _ rfl
      rw [Rise.none (b := p.f) (l := p :: r) ⟨Int.le_refl _, h2, h3⟩ a, Rise.none (b := p.f) (l := p :: r) ⟨Int.le_refl _, h2, h3⟩ this]
    · rw [if_neg a] at hk
      by_cases c : n < p.t
      · rw [if_pos c] at hk
        have hmt : m < p.t := by
          by_cases d : p.t = M
          · omega
          · rw [if_neg d] at hk; exact hk _ rfl
        rw [valL, if_pos (by omega), valL, if_pos (by omega)]
      · rw [if_neg c] at hk
        rw [valL, if_neg (by omega), valL, if_neg (by omega)]
        exact ih h3 hr' hk
end
end Go.Proofs.YtmodofbelpaelaaDoor
