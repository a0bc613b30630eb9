/- States of inputs, amendments as functions: the plain law. -/
import Derived.Test.YtmoeoomlggjaaaaGreatDoorAmU
namespace Go.Proofs.YtmoeoomlggjaaaaGreatDoor
open Go.RowKit Go.Maps

theorem goI_none : ∀ (l : List It) (seen : List (List UInt8)), goI seen l = none → (∀ x ∈ l, inB x.name = true ∧ validB x.n x.d = true ∧ itb x ∉ seen) ∧ (l.map itb).Nodup
  | [], _, _ => ⟨fun x h => by simp at h, List.nodup_nil⟩
  | y :: r, seen, h => by
    unfold goI at h
    split at h
    · cases h
    · rename_i h1
      split at h
      · cases h
      · rename_i h2
        split at h
        · cases h
        · rename_i h3
          obtain ⟨q1, q2⟩ := goI_none r _ h
          refine ⟨fun x hx => ?_, ?_⟩
          · rcases List.mem_cons.1 hx with rfl | hx
            · exact ⟨by simpa using h1, by simpa using h2, h3⟩
            · obtain ⟨e1, e2, e3⟩ := q1 x hx
              exact ⟨e1, e2, fun q => e3 (List.mem_cons_of_mem _ q)⟩
          · rw [List.map_cons, List.nodup_cons]
            refine ⟨fun q => ?_, q2⟩
            obtain ⟨x, hx, e⟩ := List.mem_map.1 q
            exact (q1 x hx).2.2 (by rw [e]; exact List.mem_cons_self ..)
theorem faultI_none {l : List It} (h : faultI l = none) : l.length ≤ 500 ∧ (∀ x ∈ l, inB x.name = true ∧ validB x.n x.d = true) ∧ (l.map itb).Nodup := by
  unfold faultI at h
  split at h
  · cases h
  · obtain ⟨q1, q2⟩ := goI_none l [] h
    exact ⟨by omega, fun x hx => ⟨(q1 x hx).1, (q1 x hx).2.1⟩, q2⟩

def inF (l : List It) : St := l.foldl (fun f x => fun y => if y = itb x then some (x.n, x.d) else f y) (fun _ => none)
theorem inF_snoc {l : List It} {k : Nat} {x : It} (h : l[k]? = some x) : inF (l.take (k + 1)) = fun y => if y = itb x then some (x.n, x.d) else inF (l.take k) y := by
  unfold inF
  rw [take_snoc h, List.foldl_append]; rfl

theorem nodup_len {α : Type} [DecidableEq α] : ∀ (l1 l2 : List α), l1.Nodup → (∀ x ∈ l1, x ∈ l2) → l1.length ≤ l2.length
  | [], _, _, _ => Nat.zero_le _
  | a :: r, l2, hn, hs => by
    obtain ⟨h1, h2⟩ := List.nodup_cons.1 hn
    have ha := hs a (List.mem_cons_self ..)
    have := nodup_len r (l2.erase a) h2 (fun x hx => (List.mem_erase_of_ne (fun e => h1 (by rw [← e]; exact hx))).2 (hs x (List.mem_cons_of_mem _ hx)))
    rw [List.length_erase_of_mem ha] at this
    have hp := List.length_pos_of_mem ha
    simp only [List.length_cons]
    omega

def mkN (y : List UInt8) : ByteArray := ⟨y.toArray⟩
theorem mkN_list (y : List UInt8) : (mkN y).data.toList = y := by simp [mkN]
theorem mkN_name (s : ByteArray) : mkN s.data.toList = s := ba_inj (mkN_list _)

theorem not_in {l : List It} {f : St} {y : List UInt8} (h : y ∉ l.map itb) : (l.foldl (fun f x => fun y => if y = itb x then some (x.n, x.d) else f y) f) y = f y := by
  induction l generalizing f with
  | nil => rfl
  | cons x r ih =>
    rw [List.map_cons, List.mem_cons, not_or] at h
    rw [List.foldl_cons, ih h.2, if_neg h.1]
theorem yes_in {l : List It} {f : St} {x : It} (hn : (l.map itb).Nodup) (hx : x ∈ l) : (l.foldl (fun f x => fun y => if y = itb x then some (x.n, x.d) else f y) f) (itb x) = some (x.n, x.d) := by
  induction l generalizing f with
  | nil => cases hx
  | cons z r ih =>
    rw [List.map_cons, List.nodup_cons] at hn
    rw [List.foldl_cons]
    rcases List.mem_cons.1 hx with rfl | hx
    · rw [not_in hn.1, if_pos rfl]
    · exact ih hn.2 hx
theorem inF_not {l : List It} {y : List UInt8} (h : y ∉ l.map itb) : inF l y = none := not_in h
theorem inF_yes {l : List It} {x : It} (hn : (l.map itb).Nodup) (hx : x ∈ l) : inF l (itb x) = some (x.n, x.d) := yes_in hn hx
theorem some_in : ∀ (l : List It) (y : List UInt8) (f : St), y ∈ l.map itb → ((l.foldl (fun f x => fun y => if y = itb x then some (x.n, x.d) else f y) f) y).isSome = true
  | [], _, _, h => by cases h
  | z :: r, y, f, h => by
    rw [List.foldl_cons]
    by_cases q : y ∈ r.map itb
    · exact some_in r y _ q
    · rw [not_in q]
      rw [List.map_cons, List.mem_cons] at h
      rw [if_pos (h.resolve_right q)]; rfl
theorem inF_some {l : List It} (y : List UInt8) : (inF l y).isSome = true ↔ y ∈ l.map itb := by
  constructor
  · intro h
    by_cases q : y ∈ l.map itb
    · exact q
    · rw [inF_not q] at h; cases h
  · intro h
    exact some_in l y _ h
theorem inF_perm {l1 l2 : List It} (hp : l1.Perm l2) (hn : (l2.map itb).Nodup) : inF l1 = inF l2 := by
  have hn1 : (l1.map itb).Nodup := (hp.map itb).nodup_iff.2 hn
  funext y
  by_cases q : y ∈ l1.map itb
  · obtain ⟨x, hx, rfl⟩ := List.mem_map.1 q
    rw [inF_yes hn1 hx, inF_yes hn (hp.mem_iff.1 hx)]
  · rw [inF_not q, inF_not (fun h => q ((hp.map itb).mem_iff.2 h))]
theorem getI_inF {l : List It} (hn : (l.map itb).Nodup) (y : List UInt8) : getI? l y = inF l y := by
  unfold getI?
  by_cases q : y ∈ l.map itb
  · obtain ⟨x, hx, rfl⟩ := List.mem_map.1 q
    rw [inF_yes hn hx]
    cases hf : l.find? (fun z => decide (itb z = itb x)) with
    | none => have := List.find?_eq_none.1 hf x hx; simp at this
    | some z =>
      have h1 := List.find?_some hf
      have h2 := List.mem_of_find?_eq_some hf
      have h3 : itb z = itb x := by simpa using h1
      have h4 := inF_yes hn h2
      rw [h3, inF_yes hn hx] at h4
      exact h4.symm
  · rw [inF_not q]
    cases hf : l.find? (fun z => decide (itb z = y)) with
    | none => rfl
    | some z =>
      have h1 := List.find?_some hf
      have h2 := List.mem_of_find?_eq_some hf
      exact absurd (List.mem_map.2 ⟨z, h2, by simpa using h1⟩) q

structure SKI (s : St) (ks : List (List UInt8)) : Prop where
  sorted : ks.Pairwise (fun x y => leB x y = true)
  nodup : ks.Nodup
  mem : ∀ x, x ∈ ks ↔ (s x).isSome = true
theorem SKI.unique {s : St} {k1 k2 : List (List UInt8)} (h1 : SKI s k1) (h2 : SKI s k2) : k1 = k2 :=
  List.Perm.eq_of_pairwise (le := fun a b => leB a b = true) (fun a b _ _ q1 q2 => leB_anti q1 q2) h1.sorted h2.sorted ((List.perm_ext_iff_of_nodup h1.nodup h2.nodup).2 (fun x => (h1.mem x).trans (h2.mem x).symm))
/-- the items of s by rising names -/
structure CanonI (s : St) (l : List It) : Prop where
  keys : SKI s (l.map itb)
  at' : ∀ x ∈ l, s (itb x) = some (x.n, x.d)
theorem CanonI.unique {s : St} {l1 l2 : List It} (h1 : CanonI s l1) (h2 : CanonI s l2) : l1 = l2 := by
  have hk := h1.keys.unique h2.keys
  have e : ∀ l : List It, (∀ x ∈ l, s (itb x) = some (x.n, x.d)) → (l.map itb).filterMap (fun k => (s k).map (fun v => It.mk (mkN k) v.1 v.2)) = l := by
    intro l hl
    induction l with
    | nil => rfl
    | cons c r ih =>
      rw [List.map_cons, List.filterMap_cons, hl c (List.mem_cons_self ..), ih (fun x hx => hl x (List.mem_cons_of_mem _ hx))]
      simp only [Option.map_some]
      unfold itb
      rw [mkN_name]
  rw [← e l1 h1.at', ← e l2 h2.at', hk]
theorem CanonI.inF {s : St} {l : List It} (h : CanonI s l) : inF l = s := by
  funext y
  by_cases q : y ∈ l.map itb
  · obtain ⟨x, hx, rfl⟩ := List.mem_map.1 q
    rw [inF_yes h.keys.nodup hx, h.at' x hx]
  · rw [inF_not q]
    cases hs : s y with
    | none => rfl
    | some v => exact absurd ((h.keys.mem y).2 (by rw [hs]; rfl)) q
theorem CanonI.len {s : St} {l : List It} (h : CanonI s l) {L : List (List UInt8)} (hL : ∀ y, (s y).isSome = true → y ∈ L) : l.length ≤ L.length := by
  have := nodup_len (l.map itb) L h.keys.nodup (fun x hx => hL x ((h.keys.mem x).1 hx))
  simpa using this
theorem canonI_of {rs l : List It} (hp : rs.Perm l) (hn : (l.map itb).Nodup) (hs : rs.Pairwise (fun a b => leB (itb a) (itb b) = true)) : CanonI (Proofs.YtmoeoomlggjaaaaGreatDoor.inF l) rs where
  keys := ⟨List.pairwise_map.2 hs, (hp.map itb).nodup_iff.2 hn, fun x => by rw [inF_some, (hp.map itb).mem_iff]⟩
  at' x hx := inF_yes hn (hp.mem_iff.1 hx)

/-- each input may be one -/
def okS (s : St) : Prop := ∀ y v, s y = some v → inB (mkN y) = true ∧ validB v.1 v.2 = true
theorem validB_in {n d : Int} (h : validB n d = true) : In8 n ∧ In8 d := by
  unfold validB at h
  simp only [decide_eq_true_eq] at h
  unfold In8
  omega
theorem CanonI.inI {s : St} {l : List It} (h : CanonI s l) (hs : okS s) : ∀ x ∈ l, InI x := fun x hx => validB_in (hs _ _ (h.at' x hx)).2
theorem goI_ok : ∀ (l : List It) (seen : List (List UInt8)), (∀ x ∈ l, inB x.name = true ∧ validB x.n x.d = true ∧ itb x ∉ seen) → (l.map itb).Nodup → goI seen l = none
  | [], _, _, _ => rfl
  | x :: r, seen, h, hn => by
    obtain ⟨h1, h2, h3⟩ := h x (List.mem_cons_self ..)
    rw [List.map_cons, List.nodup_cons] at hn
    unfold goI
    rw [if_neg (by rw [h1]; simp), if_neg (by rw [h2]; simp), if_neg h3]
    refine goI_ok r _ (fun y hy => ?_) hn.2
    obtain ⟨e1, e2, e3⟩ := h y (List.mem_cons_of_mem _ hy)
    refine ⟨e1, e2, fun q => ?_⟩
    rcases List.mem_cons.1 q with q | q
    · exact hn.1 (by rw [← q]; exact List.mem_map_of_mem hy)
    · exact e3 q
theorem CanonI.fault {s : St} {l : List It} (h : CanonI s l) (hs : okS s) (h5 : l.length ≤ 500) : faultI l = none := by
  unfold faultI
  rw [if_neg (by omega)]
  refine goI_ok l [] (fun x hx => ?_) h.keys.nodup
  obtain ⟨h1, h2⟩ := hs _ _ (h.at' x hx)
  rw [show mkN (itb x) = x.name from mkN_name _] at h1
  exact ⟨h1, h2, by simp⟩
theorem okS_in {l : List It} (h : faultI l = none) : okS (inF l) := by
  obtain ⟨_, h2, h3⟩ := faultI_none h
  intro y v hv
  have := (inF_some (l := l) y).1 (by rw [hv]; rfl)
  obtain ⟨x, hx, rfl⟩ := List.mem_map.1 this
  rw [inF_yes h3 hx] at hv
  injection hv with hv
  subst hv
  rw [show mkN (itb x) = x.name from mkN_name _]
  exact h2 x hx

/-- each change may be one -/
def okA (f : Am) : Prop := ∀ y c, f y = some c → nmb c = y ∧ mayE c = none
theorem mayE_inB {c : Ch} (h : mayE c = none) : inB c.name = true := by
  unfold mayE at h
  split at h
  · cases h
  · rename_i q; simpa using q
theorem mayE_valid {c : Ch} (h : mayE c = none) (hc : c.clear = false) : validB c.n c.d = true := by
  unfold mayE at h
  split at h
  · cases h
  · rw [hc] at h
    simp at h
    exact h
theorem okS_app {s : St} {f : Am} (hs : okS s) (hf : okA f) : okS (app s f) := by
  intro y v hv
  unfold app at hv
  cases hq : f y with
  | none => rw [hq] at hv; exact hs y v hv
  | some c =>
    rw [hq] at hv
    obtain ⟨h1, h2⟩ := hf y c hq
    cases hc : c.clear with
    | true => simp [hc] at hv
    | false =>
      simp [hc] at hv
      subst hv
      refine ⟨?_, mayE_valid h2 hc⟩
      rw [← h1]
      rw [show mkN (nmb c) = c.name from mkN_name _]
      exact mayE_inB h2
theorem app_sup {s : St} {f : Am} {L L' : List (List UInt8)} (hs : ∀ y, (s y).isSome = true → y ∈ L) (hf : ∀ y, (f y).isSome = true → y ∈ L') : ∀ y, (app s f y).isSome = true → y ∈ L ++ L' := by
  intro y h
  unfold app at h
  rw [List.mem_append]
  cases hq : f y with
  | none => rw [hq] at h; exact .inl (hs y h)
  | some c => exact .inr (hf y (by rw [hq]; rfl))
theorem okA_over {f g : Am} (hf : okA f) (hg : okA g) : okA (over f g) := by
  intro y c h
  unfold over at h
  split at h
  · exact hg y c h
  · exact hf y c h
theorem over_sup {f g : Am} {L L' : List (List UInt8)} (hs : ∀ y, (f y).isSome = true → y ∈ L) (hf : ∀ y, (g y).isSome = true → y ∈ L') : ∀ y, (over f g y).isSome = true → y ∈ L ++ L' := by
  intro y h
  unfold over at h
  rw [List.mem_append]
  split at h
  · exact .inr (hf y h)
  · exact .inl (hs y h)
theorem over_self (f : Am) : over f f = f := by funext y; unfold over; split <;> rfl
theorem over_none (f : Am) : over f (fun _ => none) = f := by funext y; unfold over; simp
theorem none_over (f : Am) : over (fun _ => none) f = f := by
  funext y; unfold over
  cases h : f y <;> simp
theorem over_assoc (f g h : Am) : over (over f g) h = over f (over g h) := by
  funext y; unfold over
  cases h y <;> simp
theorem app_twice (s : St) (f : Am) : app (app s f) f = app s f := by rw [← app_over, over_self]

theorem not_make {l : List Ch} {f : Am} {y : List UInt8} (h : y ∉ l.map nmb) : (l.foldl putA f) y = f y := by
  induction l generalizing f with
  | nil => rfl
  | cons x r ih =>
    rw [List.map_cons, List.mem_cons, not_or] at h
    rw [List.foldl_cons, ih h.2]
    unfold putA
    rw [if_neg h.1]
theorem mem_make : ∀ (l : List Ch) {y : List UInt8} {c : Ch} (f : Am), (l.foldl putA f) y = some c → (c ∈ l ∧ nmb c = y) ∨ f y = some c
  | [], _, _, _, h => .inr h
  | x :: r, y, c, f, h => by
    rw [List.foldl_cons] at h
    rcases mem_make r _ h with ⟨h1, h2⟩ | h1
    · exact .inl ⟨List.mem_cons_of_mem _ h1, h2⟩
    · unfold putA at h1
      split at h1
      · rename_i e; injection h1 with h1; subst h1; exact .inl ⟨List.mem_cons_self .., e.symm⟩
      · exact .inr h1
theorem makeF_mem {l : List Ch} {y : List UInt8} {c : Ch} (h : makeF l y = some c) : c ∈ l ∧ nmb c = y := by
  unfold makeF at h
  exact (mem_make l _ h).resolve_right (by simp)
theorem makeF_not {l : List Ch} {y : List UInt8} (h : y ∉ l.map nmb) : makeF l y = none := not_make h
theorem makeF_yes {l : List Ch} {c : Ch} (hn : (l.map nmb).Nodup) (hc : c ∈ l) : makeF l (nmb c) = some c := by
  unfold makeF
  suffices ∀ f : Am, (l.foldl putA f) (nmb c) = some c from this _
  induction l with
  | nil => cases hc
  | cons z r ih =>
    intro f
    rw [List.map_cons, List.nodup_cons] at hn
    rw [List.foldl_cons]
    rcases List.mem_cons.1 hc with rfl | hc
    · rw [not_make hn.1]; unfold putA; rw [if_pos rfl]
    · exact ih hn.2 hc _
theorem makeF_ok {l : List Ch} (h : ∀ c ∈ l, mayE c = none) : okA (makeF l) := fun y c hc => ⟨(makeF_mem hc).2, h c (makeF_mem hc).1⟩
theorem makeF_sup {l : List Ch} : ∀ y, (makeF l y).isSome = true → y ∈ l.map nmb := fun y h => by
  obtain ⟨c, hc⟩ := Option.isSome_iff_exists.1 h
  exact List.mem_map.2 ⟨c, (makeF_mem hc).1, (makeF_mem hc).2⟩
theorem Canon.make {f : Am} {l : List Ch} (h : Canon f l) : makeF l = f := by
  funext y
  by_cases q : y ∈ l.map nmb
  · obtain ⟨c, hc, rfl⟩ := List.mem_map.1 q
    rw [makeF_yes h.keys.nodup hc, h.at' c hc]
  · rw [makeF_not q]
    cases hs : f y with
    | none => rfl
    | some v => exact absurd ((h.keys.mem y).2 (by rw [hs]; rfl)) q

/-- what leads from one state to another -/
def diffA (u v : St) : Am := fun y => match v y with
  | some b => if u y = some b then none else some ⟨mkN y, false, b.1, b.2⟩
  | none => if (u y).isSome = true then some ⟨mkN y, true, 0, 0⟩ else none
theorem app_diff (u v : St) : app u (diffA u v) = v := by
  funext y
  unfold app diffA
  cases hv : v y with
  | none =>
    cases hu : u y with
    | none => simp
    | some a => simp
  | some b =>
    dsimp only
    by_cases e : u y = some b
    · rw [if_pos e]; exact e
    · rw [if_neg e]; simp
theorem diff_none (u v : St) (y : List UInt8) : diffA u v y = none ↔ u y = v y := by
  unfold diffA
  cases hv : v y with
  | none => cases hu : u y <;> simp
  | some b =>
    dsimp only
    by_cases e : u y = some b
    · simp [e]
    · rw [if_neg e]; simp [e]
theorem diff_ok {u v : St} (hu : okS u) (hv : okS v) : okA (diffA u v) := by
  intro y c h
  unfold diffA at h
  cases hq : v y with
  | none =>
    rw [hq] at h
    dsimp only at h
    split at h
    · rename_i e
      injection h with h
      subst h
      obtain ⟨a, ha⟩ := Option.isSome_iff_exists.1 e
      refine ⟨mkN_list y, ?_⟩
      unfold mayE
      simp [(hu y a ha).1]
    · cases h
  | some b =>
    rw [hq] at h
    dsimp only at h
    split at h
    · cases h
    · injection h with h
      subst h
      refine ⟨mkN_list y, ?_⟩
      unfold mayE
      simp [(hv y b hq).1, (hv y b hq).2]
theorem diff_sup {u v : St} {L L' : List (List UInt8)} (hs : ∀ y, (u y).isSome = true → y ∈ L) (hf : ∀ y, (v y).isSome = true → y ∈ L') : ∀ y, (diffA u v y).isSome = true → y ∈ L ++ L' := by
  intro y h
  rw [List.mem_append]
  cases hv : v y with
  | some b => exact .inr (hf y (by rw [hv]; rfl))
  | none =>
    cases hu : u y with
    | some b => exact .inl (hs y (by rw [hu]; rfl))
    | none =>
      have := (diff_none u v y).2 (by rw [hu, hv])
      rw [this] at h
      cases h
theorem Canon.len {f : Am} {l : List Ch} (h : Canon f l) {L : List (List UInt8)} (hL : ∀ y, (f y).isSome = true → y ∈ L) : l.length ≤ L.length := by
  have := nodup_len (l.map nmb) L h.keys.nodup (fun x hx => hL x ((h.keys.mem x).1 hx))
  simpa using this
/-- sorted names give the row -/
theorem canon_of {f : Am} {ks : List (List UInt8)} (h : SK f ks) (hf : ∀ y c, f y = some c → nmb c = y) : Canon f (ks.filterMap f) := by
  have e : (ks.filterMap f).map nmb = ks := by
    have : ∀ l : List (List UInt8), (∀ x ∈ l, (f x).isSome = true) → (l.filterMap f).map nmb = l := by
      intro l hl
      induction l with
      | nil => rfl
      | cons k r ih =>
        obtain ⟨c, hc⟩ := Option.isSome_iff_exists.1 (hl k (List.mem_cons_self ..))
        rw [List.filterMap_cons, hc]
        simp only [List.map_cons]
        rw [ih (fun x hx => hl x (List.mem_cons_of_mem _ hx)), hf k c hc]
    exact this ks (fun x hx => (h.mem x).1 hx)
  refine ⟨by rw [e]; exact h, fun c hc => ?_⟩
  obtain ⟨k, _, hk⟩ := List.mem_filterMap.1 hc
  rw [hf k c hk]; exact hk
end Go.Proofs.YtmoeoomlggjaaaaGreatDoor
