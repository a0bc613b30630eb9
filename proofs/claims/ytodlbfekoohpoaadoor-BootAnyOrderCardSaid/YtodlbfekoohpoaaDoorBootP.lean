/- Steps that are worked out of others: values, and in which order they come to stand: plain law. -/
import Derived.Test.YtodlbfekoohpoaaDoorBootJ
namespace Go.Proofs.YtodlbfekoohpoaaDoor
open Go.RowKit

/-- a step: its base, what it is worked out of -/
abbrev Sm := Int × List Int
/-- the step that f steps back from i stands -/
def toOf (i : Nat) (f : Int) : Option Nat := if 0 < f ∧ f ≤ (i : Int) then some ((i : Int) - f).toNat else none
theorem toOf_lt {i t : Nat} {f : Int} (h : toOf i f = some t) : t < i ∧ (t : Int) = (i : Int) - f := by
  unfold toOf at h
  split at h
  · simp only [Option.some.injEq] at h
    omega
  · cases h
theorem toOf_none {i : Nat} {f : Int} (h : toOf i f = none) : ¬ (0 < f ∧ f ≤ (i : Int)) := fun e => by
  unfold toOf at h
  rw [if_pos e] at h
  cases h
def addV (g : Nat → Int) (i : Nat) (n f : Int) : Int := match toOf i f with | some t => (n + g t).tmod 1000003 | none => n
def sumV (g : Nat → Int) (i : Nat) (s : Sm) : Int := (s.2.take 4).foldl (addV g i) s.1
theorem fold_same {g g' : Nat → Int} {i : Nat} (h : ∀ t, t < i → g t = g' t) : ∀ (l : List Int) (n : Int), l.foldl (addV g i) n = l.foldl (addV g' i) n
  | [], _ => rfl
  | f :: r, n => by
    have e : addV g i n f = addV g' i n f := by
      unfold addV
      cases ht : toOf i f with
      | none => rfl
      | some t => dsimp only; rw [h t (toOf_lt ht).1]
    rw [List.foldl_cons, List.foldl_cons, e]
    exact fold_same h r _
def valF (S : List Sm) : Nat → Nat → Int
  | 0, _ => 0
  | k + 1, i => sumV (valF S k) i (S[i]?.getD (0, []))
theorem valF_more (S : List Sm) : ∀ k i, i < k → valF S (k + 1) i = valF S k i
  | 0, _, h => by omega
  | k + 1, i, h => fold_same (fun t ht => valF_more S k t (by omega)) _ _
theorem valF_from (S : List Sm) (i : Nat) : ∀ d, valF S (i + 1 + d) i = valF S (i + 1) i
  | 0 => rfl
  | d + 1 => (valF_more S (i + 1 + d) i (by omega)).trans (valF_from S i d)
/-- a step's value -/
def valS (S : List Sm) (i : Nat) : Int := valF S (i + 1) i
theorem valS_eq (S : List Sm) (i : Nat) (s : Sm) (h : S[i]? = some s) : valS S i = sumV (valS S) i s := by
  show sumV (valF S i) i (S[i]?.getD (0, [])) = _
  rw [h]
  exact fold_same (fun t ht => by
    have := valF_from S t (i - (t + 1))
    rw [show t + 1 + (i - (t + 1)) = i by omega] at this
    exact this) _ _

/-- how great values are -/
def Mild (S : List Sm) : Prop := ∀ s ∈ S, -1099511627776 ≤ s.1 ∧ s.1 ≤ 1099511627776
theorem addV_mild {g : Nat → Int} {i : Nat} {n f : Int} (hn : -1099511627776 ≤ n ∧ n ≤ 1099511627776) : -1099511627776 ≤ addV g i n f ∧ addV g i n f ≤ 1099511627776 := by
  unfold addV
  cases toOf i f with
  | none => exact hn
  | some t =>
    dsimp only
    have h1 := Int.lt_tmod_of_pos (n + g t) (show (0 : Int) < 1000003 by omega)
    have h2 := Int.tmod_lt_of_pos (n + g t) (show (0 : Int) < 1000003 by omega)
    omega
theorem fold_mild {g : Nat → Int} {i : Nat} : ∀ (l : List Int) (n : Int), (-1099511627776 ≤ n ∧ n ≤ 1099511627776) → -1099511627776 ≤ l.foldl (addV g i) n ∧ l.foldl (addV g i) n ≤ 1099511627776
  | [], _, h => h
  | _ :: r, _, h => fold_mild r _ (addV_mild h)
theorem valS_mild {S : List Sm} (hS : Mild S) (i : Nat) : -1099511627776 ≤ valS S i ∧ valS S i ≤ 1099511627776 := by
  cases h : S[i]? with
  | none =>
    have e : valS S i = sumV (valF S i) i (0, []) := by show sumV (valF S i) i (S[i]?.getD (0, [])) = _; rw [h]; rfl
    rw [e]
    show -1099511627776 ≤ (0 : Int) ∧ (0 : Int) ≤ 1099511627776
    omega
  | some s =>
    rw [valS_eq S i s h]
    exact fold_mild _ _ (hS s (List.mem_of_getElem? h))

/-- the notes of steps, in the order in which their works ended -/
def ntsS (S : List Sm) (I : List Nat) : List Nt := I.map fun i => (nameS i, valS S i)
theorem ntsS_snoc (S : List Sm) (I : List Nat) (i : Nat) : ntsS S (I ++ [i]) = ntsS S I ++ [(nameS i, valS S i)] := by unfold ntsS; rw [List.map_append]; rfl
theorem ntsS_len (S : List Sm) (I : List Nat) : (ntsS S I).length = I.length := List.length_map _
/-- where a step stands -/
def atI : List Nat → Nat → Option Nat
  | [], _ => none
  | x :: r, i => if x = i then some 0 else (atI r i).map (· + 1)
theorem atI_some {I : List Nat} {i p : Nat} (h : atI I i = some p) : I[p]? = some i := by
  induction I generalizing p with
  | nil => cases h
  | cons x r ih =>
    unfold atI at h
    split at h
    · cases h; rename_i e; rw [e]; rfl
    · obtain ⟨q, hq, rfl⟩ := Option.map_eq_some_iff.1 h
      exact ih hq
theorem atI_none {I : List Nat} {i : Nat} (h : atI I i = none) : i ∉ I := by
  induction I with
  | nil => simp
  | cons x r ih =>
    unfold atI at h
    split at h
    · cases h
    · rename_i e
      have := ih (by cases hr : atI r i with | none => rfl | some q => rw [hr] at h; cases h)
      simp only [List.mem_cons, not_or]
      exact ⟨fun e2 => e e2.symm, this⟩
theorem atI_mem {I : List Nat} {i : Nat} (h : i ∈ I) : ∃ p, atI I i = some p := by
  cases e : atI I i with
  | none => exact absurd h (atI_none e)
  | some p => exact ⟨p, rfl⟩
theorem atI_nodup {I : List Nat} (hn : I.Nodup) {i p : Nat} (h : I[p]? = some i) : atI I i = some p := by
  obtain ⟨q, hq⟩ := atI_mem (List.mem_of_getElem? h)
  have h1 := List.getElem?_eq_some_iff.1 (atI_some hq)
  have h2 := List.getElem?_eq_some_iff.1 h
  obtain ⟨a1, b1⟩ := h1
  obtain ⟨a2, b2⟩ := h2
  rw [hq, (List.getElem_inj hn).1 (b1.trans b2.symm)]
theorem idx_nts (S : List Sm) {I : List Nat} (hI : ∀ j ∈ I, j < 61) {i : Nat} (hi : i < 61) : idxN (ntsS S I) (nameS i) = atI I i := by
  induction I with
  | nil => rfl
  | cons x r ih =>
    show (if nameS x = nameS i then some 0 else (idxN (ntsS S r) (nameS i)).map (· + 1)) = if x = i then some 0 else (atI r i).map (· + 1)
    rw [ih (fun j hj => hI j (List.mem_cons_of_mem _ hj))]
    by_cases e : x = i
    · rw [if_pos (by rw [e]), if_pos e]
    · rw [if_neg (fun h => e (nameS_inj (hI x (List.mem_cons_self ..)) hi h)), if_neg e]

/-- the steps that are noted: each once, each behind those that it is worked out of -/
structure Gd (S : List Sm) (I : List Nat) : Prop where
  nodup : I.Nodup
  lt : ∀ j ∈ I, j < S.length
  deps : ∀ (p j : Nat) (s : Sm), I[p]? = some j → S[j]? = some s → ∀ f ∈ s.2.take 4, ∀ t, toOf j f = some t → ∃ q, q < p ∧ I[q]? = some t
theorem Gd.nil (S : List Sm) : Gd S [] := ⟨List.nodup_nil, fun _ h => by simp at h, fun _ _ _ h => by simp at h⟩
theorem Gd.snoc {S : List Sm} {I : List Nat} (h : Gd S I) {i : Nat} (hi : i < S.length) (hn : i ∉ I) (hd : ∀ s, S[i]? = some s → ∀ f ∈ s.2.take 4, ∀ t, toOf i f = some t → t ∈ I) : Gd S (I ++ [i]) where
  nodup := by
    rw [List.nodup_append]
    exact ⟨h.nodup, List.pairwise_singleton _ _, fun a ha b hb e => hn (by rw [List.mem_singleton.1 hb] at e; rw [← e]; exact ha)⟩
  lt j hj := by
    rcases List.mem_append.1 hj with h1 | h1
    · exact h.lt j h1
    · rw [List.mem_singleton.1 h1]; exact hi
  deps p j s hp hs f hf t ht := by
    rw [List.getElem?_append] at hp
    split at hp
    · rename_i hlt
      obtain ⟨q, h1, h2⟩ := h.deps p j s hp hs f hf t ht
      exact ⟨q, h1, by rw [List.getElem?_append_left (by omega)]; exact h2⟩
    · rename_i hlt
      have hpl := (List.getElem?_eq_some_iff.1 hp).1
      rw [List.length_singleton] at hpl
      have h0 : p - I.length = 0 := by omega
      rw [h0] at hp
      simp only [List.getElem?_cons_zero, Option.some.injEq] at hp
      subst hp
      obtain ⟨q, hq⟩ := List.getElem?_of_mem (hd s hs f hf t ht)
      have hql := (List.getElem?_eq_some_iff.1 hq).1
      exact ⟨q, by omega, by rw [List.getElem?_append_left hql]; exact hq⟩
theorem sub_len : ∀ {l m : List Nat}, l.Nodup → (∀ x ∈ l, x ∈ m) → l.length ≤ m.length
  | [], m, _, _ => Nat.zero_le _
  | x :: r, m, hn, hs => by
    have hx := hs x (List.mem_cons_self ..)
    have h2 := List.nodup_cons.1 hn
    have := sub_len (l := r) (m := m.erase x) h2.2 (fun y hy => (List.mem_erase_of_ne (fun e => h2.1 (by rw [← e]; exact hy))).2 (hs y (List.mem_cons_of_mem _ hy)))
    rw [List.length_erase_of_mem hx] at this
    have hp : 0 < m.length := List.length_pos_of_mem hx
    rw [List.length_cons]
    omega
theorem Gd.len {S : List Sm} {I : List Nat} (h : Gd S I) : I.length ≤ S.length := by
  have := sub_len h.nodup (fun j hj => List.mem_range.2 (h.lt j hj))
  rwa [List.length_range] at this
theorem Gd.full {S : List Sm} {I : List Nat} (h : Gd S I) (ha : ∀ i, i < S.length → i ∈ I) : I.length = S.length := by
  have := sub_len List.nodup_range (fun j hj => ha j (List.mem_range.1 hj))
  rw [List.length_range] at this
  exact Nat.le_antisymm h.len this

/-- how often works ran: once each of I; the others not; those under way (above i): whatever -/
def Ran0 (R : List Int) (I : List Nat) (i : Nat) : Prop := ∀ j, j ≤ i → j ∉ I → R[j]? = some 0
/-- what turns: those that came to I ran once -/
structure RanTo (I J : List Nat) (R R' : List Int) : Prop where
  len : R'.length = R.length
  new : ∀ j, j ∈ J → j ∉ I → j < R.length → R'[j]? = some 1
  old : ∀ j, (j ∈ I ∨ j ∉ J) → R'[j]? = R[j]?
theorem RanTo.refl (I : List Nat) (R : List Int) : RanTo I I R R := ⟨rfl, fun j h1 h2 => absurd h1 h2, fun _ _ => rfl⟩
theorem RanTo.trans {I J K : List Nat} {R R1 R2 : List Int} (h : RanTo I J R R1) (k : RanTo J K R1 R2) (h1 : ∀ j ∈ I, j ∈ J) (h2 : ∀ j ∈ J, j ∈ K) : RanTo I K R R2 where
  len := k.len.trans h.len
  new j hj hn hl := by
    by_cases e : j ∈ J
    · rw [k.old j (.inl e), h.new j e hn hl]
    · exact k.new j hj e (by rw [h.len]; exact hl)
  old j hj := by
    by_cases e : j ∈ I
    · rw [k.old j (.inl (h1 j e)), h.old j (.inl e)]
    · have hk : j ∉ K := by rcases hj with h | h; exact absurd h e; exact h
      have hJ : j ∉ J := fun h => hk (h2 j h)
      rw [k.old j (.inr hk), h.old j (.inr hJ)]
theorem Ran0.to {I J : List Nat} {R R' : List Int} {i : Nat} (h : Ran0 R I i) (k : RanTo I J R R') (h1 : ∀ j ∈ I, j ∈ J) : Ran0 R' J i := fun j hj hn => by
  rw [k.old j (.inr hn)]
  exact h j hj (fun e => hn (h1 j e))
theorem Ran0.set {I : List Nat} {R : List Int} {i t : Nat} (h : Ran0 R I i) (ht : t < i) (u : Int) : Ran0 (R.set i u) I t := fun j hj hn => by
  rw [List.getElem?_set_ne (by omega)]
  exact h j (by omega) hn
/-- a work's own turn: it counts, what it asks for turns, it is noted -/
theorem RanTo.own {I J : List Nat} {R R' : List Int} {i : Nat} (h : RanTo I J (R.set i 1) R') (hi : i < R.length) (hn : i ∉ J) (h1 : ∀ j ∈ I, j ∈ J) : RanTo I (J ++ [i]) R R' where
  len := h.len.trans (List.length_set ..)
  new j hj hnI hl := by
    rcases List.mem_append.1 hj with e | e
    · exact h.new j e hnI (by rw [List.length_set]; exact hl)
    · rw [List.mem_singleton.1 e, h.old i (.inr hn), List.getElem?_set_self hi]
  old j hj := by
    have hne : j ≠ i := fun e => by
      rcases hj with h2 | h2
      · exact hn (e ▸ h1 j h2)
      · exact h2 (List.mem_append.2 (.inr (List.mem_singleton.2 e)))
    rw [h.old j (by rcases hj with h2 | h2; exact .inl h2; exact .inr (fun e => h2 (List.mem_append.2 (.inl e)))), List.getElem?_set_ne (fun e => hne e.symm)]

end Go.Proofs.YtodlbfekoohpoaaDoor
