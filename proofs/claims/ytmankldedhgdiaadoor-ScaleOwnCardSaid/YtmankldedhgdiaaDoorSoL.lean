/- Plain law of scales put together: the fewest brackets, rates, Froms; no program in sight. -/
import Derived.Test.YtmankldedhgdiaaDoorScaleA
namespace Go.Proofs.YtmankldedhgdiaaDoor

/-- brackets whose rate is another than the one ahead -/
def few (r : Rat) : List (Rat × Rat) → List (Rat × Rat)
  | [] => []
  | b :: l => if b.2 = r then few r l else b :: few b.2 l
def normL (s : List (Rat × Rat)) : List (Rat × Rat) := if few 0 s = [] then [(0, 0)] else few 0 s
/-- the rate from x on -/
def rateF (x r : Rat) : List (Rat × Rat) → Rat
  | [] => r
  | b :: l => rateF x (if b.1 ≤ x then b.2 else r) l
/-- .. where brackets rise: up to the first one above x -/
def rateS (x r : Rat) : List (Rat × Rat) → Rat
  | [] => r
  | b :: l => if b.1 ≤ x then rateS x b.2 l else r
/-- Froms that rise -/
abbrev Ris (s : List (Rat × Rat)) : Prop := s.Pairwise (fun a b => a.1 < b.1)

theorem few_same {r : Rat} {b : Rat × Rat} {l : List (Rat × Rat)} (h : b.2 = r) : few r (b :: l) = few r l := if_pos h
theorem few_new {r : Rat} {b : Rat × Rat} {l : List (Rat × Rat)} (h : ¬ b.2 = r) : few r (b :: l) = b :: few b.2 l := if_neg h
theorem few_len (r : Rat) (l : List (Rat × Rat)) : (few r l).length ≤ l.length := by
  induction l generalizing r with
  | nil => exact Nat.le_refl _
  | cons b l ih =>
    unfold few
    split
    · have := ih r; simp only [List.length_cons]; omega
    · have := ih b.2; simp only [List.length_cons]; omega
theorem normL_len (s : List (Rat × Rat)) (h : 0 < s.length) : (normL s).length ≤ s.length := by
  unfold normL
  split
  · exact h
  · exact few_len 0 s
theorem few_mem {r : Rat} {l : List (Rat × Rat)} {x : Rat × Rat} (h : x ∈ few r l) : x ∈ l := by
  induction l generalizing r with
  | nil => exact h
  | cons b l ih =>
    unfold few at h
    split at h
    · exact List.mem_cons_of_mem _ (ih h)
    · rcases List.mem_cons.1 h with rfl | h
      · exact List.mem_cons_self ..
      · exact List.mem_cons_of_mem _ (ih h)

theorem rateF_above {x r : Rat} {l : List (Rat × Rat)} (h : ∀ b ∈ l, x < b.1) : rateF x r l = r := by
  induction l generalizing r with
  | nil => rfl
  | cons b l ih =>
    unfold rateF
    rw [if_neg (Rat.not_le.2 (h b (List.mem_cons_self ..)))]
    exact ih fun c hc => h c (List.mem_cons_of_mem _ hc)
theorem rate_same {x r : Rat} {l : List (Rat × Rat)} (h : Ris l) : rateF x r l = rateS x r l := by
  induction l generalizing r with
  | nil => rfl
  | cons b l ih =>
    have h' := List.pairwise_cons.1 h
    unfold rateF rateS
    by_cases hb : b.1 ≤ x
    · rw [if_pos hb, if_pos hb]; exact ih h'.2
    · rw [if_neg hb, if_neg hb]
      exact rateF_above fun c hc => by have := h'.1 c hc; have := Rat.not_le.1 hb; grind
theorem rateF_append (x r : Rat) (l m : List (Rat × Rat)) : rateF x r (l ++ m) = rateF x (rateF x r l) m := by
  induction l generalizing r with
  | nil => rfl
  | cons b l ih => exact ih _
/-- the rate at a From -/
theorem rateF_at {l m : List (Rat × Rat)} {b : Rat × Rat} (r : Rat) (h : Ris (l ++ b :: m)) : rateF b.1 r (l ++ b :: m) = b.2 := by
  rw [rateF_append]
  have h2 := (List.pairwise_append.1 h).2.1
  show rateF b.1 (if b.1 ≤ b.1 then b.2 else _) m = b.2
  rw [if_pos Rat.le_refl]
  exact rateF_above (List.pairwise_cons.1 h2).1

/-- all Froms of both, rising, each once -/
def IsF (s t : List (Rat × Rat)) (l : List Rat) : Prop := l.Pairwise (· < ·) ∧ ∀ x, x ∈ l ↔ x ∈ s.map (·.1) ∨ x ∈ t.map (·.1)

theorem sorted_uniq {l m : List Rat} (hl : l.Pairwise (· < ·)) (hm : m.Pairwise (· < ·)) (h : ∀ x, x ∈ l ↔ x ∈ m) : l = m := by
  induction l generalizing m with
  | nil =>
    cases m with
    | nil => rfl
    | cons b m => exact absurd ((h b).2 (List.mem_cons_self ..)) (by simp)
  | cons a l ih =>
    cases m with
    | nil => exact absurd ((h a).1 (List.mem_cons_self ..)) (by simp)
    | cons b m =>
      have hl' := List.pairwise_cons.1 hl
      have hm' := List.pairwise_cons.1 hm
      have hab : a = b := by
        rcases List.mem_cons.1 ((h a).1 (List.mem_cons_self ..)) with e | e
        · exact e
        · rcases List.mem_cons.1 ((h b).2 (List.mem_cons_self ..)) with e2 | e2
          · exact e2.symm
          · have := hm'.1 a e; have := hl'.1 b e2; grind
      subst hab
      congr 1
      refine ih hl'.2 hm'.2 fun x => ⟨fun hx => ?_, fun hx => ?_⟩
      · rcases List.mem_cons.1 ((h x).1 (List.mem_cons_of_mem _ hx)) with rfl | e
        · exact absurd (hl'.1 _ hx) Rat.lt_irrefl
        · exact e
      · rcases List.mem_cons.1 ((h x).2 (List.mem_cons_of_mem _ hx)) with rfl | e
        · exact absurd (hm'.1 _ hx) Rat.lt_irrefl
        · exact e
theorem IsF.uniq {s t : List (Rat × Rat)} {l m : List Rat} (h : IsF s t l) (k : IsF s t m) : l = m := sorted_uniq h.1 k.1 fun x => (h.2 x).trans (k.2 x).symm

/-- equal neighbours left out -/
def dedup : List Rat → List Rat
  | [] => []
  | [x] => [x]
  | x :: y :: l => if x = y then dedup (y :: l) else x :: dedup (y :: l)
theorem dedup_mem (x : Rat) : ∀ l : List Rat, x ∈ dedup l ↔ x ∈ l
  | [] => Iff.rfl
  | [_] => Iff.rfl
  | a :: b :: l => by
    unfold dedup
    split
    · rename_i e
      subst e
      rw [dedup_mem x (a :: l)]; simp
    · rw [List.mem_cons, dedup_mem x (b :: l), List.mem_cons (a := x) (b := a)]
theorem dedup_rise : ∀ {l : List Rat}, l.Pairwise (· ≤ ·) → (dedup l).Pairwise (· < ·)
  | [], _ => List.Pairwise.nil
  | [a], _ => List.pairwise_singleton ..
  | a :: b :: l, h => by
    have h' := List.pairwise_cons.1 h
    unfold dedup
    split
    · exact dedup_rise h'.2
    · rename_i hne
      refine List.pairwise_cons.2 ⟨fun x hx => ?_, dedup_rise h'.2⟩
      rw [dedup_mem] at hx
      have hab : a < b := Rat.lt_of_le_of_ne (h'.1 b (List.mem_cons_self ..)) hne
      rcases List.mem_cons.1 hx with rfl | hx
      · exact hab
      · have := (List.pairwise_cons.1 h'.2).1 x hx; grind

/-- the new rates -/
def outsL (f : Rat → Rat → Option Rat) (s t : List (Rat × Rat)) : List Rat → Option (List (Rat × Rat))
  | [] => some []
  | x :: l => match f (rateF x 0 s) (rateF x 0 t) with
    | none => none
    | some r => match outsL f s t l with
      | none => none
      | some o => some ((x, r) :: o)
theorem outsL_len {f : Rat → Rat → Option Rat} {s t : List (Rat × Rat)} {l : List Rat} {o : List (Rat × Rat)} (h : outsL f s t l = some o) : o.length = l.length := by
  induction l generalizing o with
  | nil => cases h; rfl
  | cons x l ih =>
    unfold outsL at h
    split at h
    · cases h
    · split at h
      · cases h
      · rename_i o' ho
        cases h
        simp [ih ho]

/-- products by k, each one's rate -/
def timesO (f : Rat → Option Rat) : List (Rat × Rat) → Option (List (Rat × Rat))
  | [] => some []
  | b :: l => match f b.2 with
    | none => none
    | some r => match timesO f l with
      | none => none
      | some o => some ((b.1, r) :: o)
theorem outs_times {f : Rat → Option Rat} (pre s : List (Rat × Rat)) (h : Ris (pre ++ s)) (t : List (Rat × Rat)) : outsL (fun a _ => f a) (pre ++ s) t (s.map (·.1)) = timesO f s := by
  induction s generalizing pre with
  | nil => rfl
  | cons b s ih =>
    have := ih (pre ++ [b]) (by simpa using h)
    rw [List.append_assoc, List.singleton_append] at this
    show (match f (rateF b.1 0 (pre ++ b :: s)) with | none => none | some r => _) = _
    rw [rateF_at 0 h]
    unfold timesO
    rw [this]
/-- products of the fewest brackets say the same as the fewest of the products -/
theorem times_few {f : Rat → Option Rat} (s : List (Rat × Rat)) (r q : Rat) (hr : f r = some q) :
    (timesO f s).map (few q) = (timesO f (few r s)).map (few q) := by
  induction s generalizing r q with
  | nil => rfl
  | cons b s ih =>
    by_cases hb : b.2 = r
    · rw [few_same hb]
      rw [← ih r q hr]
      have e : timesO f (b :: s) = match timesO f s with | none => none | some o => some ((b.1, q) :: o) := by
        show (match f b.2 with | none => none | some r => _) = _
        rw [hb, hr]
      rw [e]
      cases timesO f s with
      | none => rfl
      | some o => show some (few q ((b.1, q) :: o)) = some (few q o); rw [few_same (b := (b.1, q)) rfl]
    · rw [few_new hb]
      conv => lhs; unfold timesO
      conv => rhs; unfold timesO
      cases hp : f b.2 with
      | none => rfl
      | some p =>
        have := ih b.2 p hp
        by_cases hpq : p = q
        · subst hpq
          revert this
          cases timesO f s with
          | none =>
            cases timesO f (few b.2 s) with
            | none => intro _; rfl
            | some o => intro h; cases h
          | some o =>
            cases timesO f (few b.2 s) with
            | none => intro h; cases h
            | some o' =>
              intro h
              simp only [Option.map_some, Option.some.injEq] at h
              show some (few p ((b.1, p) :: o)) = some (few p ((b.1, p) :: o'))
              rw [few_same (b := (b.1, p)) rfl, few_same (b := (b.1, p)) rfl, h]
        · revert this
          cases timesO f s with
          | none =>
            cases timesO f (few b.2 s) with
            | none => intro _; rfl
            | some o => intro h; cases h
          | some o =>
            cases timesO f (few b.2 s) with
            | none => intro h; cases h
            | some o' =>
              intro h
              simp only [Option.map_some, Option.some.injEq] at h
              show some (few q ((b.1, p) :: o)) = some (few q ((b.1, p) :: o'))
              rw [few_new (b := (b.1, p)) hpq, few_new (b := (b.1, p)) hpq, h]
theorem times_norm {f : Rat → Option Rat} (s : List (Rat × Rat)) (h0 : f 0 = some 0) : (timesO f s).map normL = (timesO f (normL s)).map normL := by
  have h := times_few s 0 0 h0
  unfold normL
  split
  · rename_i e
    rw [e] at h
    revert h
    have e2 : timesO f [((0 : Rat), (0 : Rat))] = some [(0, 0)] := by simp [timesO, h0]
    rw [e2]
    cases timesO f s with
    | none => intro h; cases h
    | some o =>
      intro h
      have : few 0 o = [] := by simpa [timesO, few] using h
      show some (if few 0 o = [] then _ else _) = some (if few 0 [((0 : Rat), (0 : Rat))] = [] then _ else _)
      rw [if_pos this, if_pos (by simp [few])]
  · revert h
    cases timesO f s with
    | none =>
      cases timesO f (few 0 s) with
      | none => intro _; rfl
      | some o => intro h; cases h
    | some o =>
      cases timesO f (few 0 s) with
      | none => intro h; cases h
      | some o' =>
        intro h
        simp only [Option.map_some, Option.some.injEq] at h
        simp only [Option.map_some, h]
end Go.Proofs.YtmankldedhgdiaaDoor
