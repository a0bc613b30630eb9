/- What ScaleOwn holds in memory: plain words. -/
import Derived.Test.YtmankldedhgdiaaDoorSoJ
import Derived.Test.YtmankldedhgdiaaDoorSoM
import Derived.Test.YtmankldedhgdiaaDoorSoN
namespace Go.Proofs.YtmankldedhgdiaaDoor
open Go.RowKit

/-- slices of brackets of the call's own, in blocks apart -/
structure OwnAll (base : Nat) (w : World) (vs : List Value) (L : List (List BI)) : Prop where
  len : vs.length = L.length
  own : ∀ (i : Nat) (v : Value) (l : List BI), vs[i]? = some v → L[i]? = some l → Own encR 4 31 base w v l
  apart : ∀ (i j : Nat) (vi vj : Value) (g : Nat), i < j → vs[i]? = some vi → vs[j]? = some vj → vi.ownBlock = some g → vj.ownBlock ≠ some g
theorem OwnAll.nil (base : Nat) (w : World) : OwnAll base w [] [] := ⟨rfl, (fun i v l h => by simp at h), (fun i j vi vj g _ h => by simp at h)⟩
theorem OwnAll.below {base : Nat} {w w' : World} {vs : List Value} {L : List (List BI)} (h : OwnAll base w vs L) (hb : Below w.heap.size w w') : OwnAll base w' vs L := ⟨h.len, fun i v l a b => (h.own i v l a b).below hb, h.apart⟩
theorem OwnAll.snoc {base : Nat} {w w' : World} {vs : List Value} {L : List (List BI)} {v : Value} {l : List BI} (h : OwnAll base w vs L) (hb : Below w.heap.size w w') (hv : Own encR 4 31 w.heap.size w' v l) (hB : base ≤ w.heap.size) : OwnAll base w' (vs ++ [v]) (L ++ [l]) where
  len := by rw [List.length_append, List.length_append, h.len]; rfl
  own := fun i u m a b => by
    by_cases hi : i < vs.length
    · rw [List.getElem?_append_left hi] at a
      rw [List.getElem?_append_left (by rw [← h.len]; exact hi)] at b
      exact (h.own i u m a b).below hb
    · rw [List.getElem?_append_right (by omega)] at a
      rw [List.getElem?_append_right (by rw [← h.len]; omega), ← h.len] at b
      cases hk : i - vs.length with
      | zero => rw [hk] at a b; cases a; cases b; exact ownsRow_base hv hB
      | succ n => rw [hk] at a; simp at a
  apart := fun i j vi vj g hij a b e => by
    have hi : i < vs.length := by
      have h1 := (List.getElem?_eq_some_iff.1 a).1
      have h2 := (List.getElem?_eq_some_iff.1 b).1
      rw [List.length_append, List.length_singleton] at h1 h2
      omega
    rw [List.getElem?_append_left hi] at a
    by_cases hj : j < vs.length
    · rw [List.getElem?_append_left hj] at b
      exact h.apart i j vi vj g hij a b e
    · rw [List.getElem?_append_right (by omega)] at b
      cases hk : j - vs.length with
      | zero =>
        rw [hk] at b; cases b
        intro e2
        have h1 := (h.own i vi (L[i]'(by rw [← h.len]; exact hi)) a (List.getElem?_eq_getElem _)).lt g e
        have h2 := (hv.lt g e2).1
        omega
      | succ n => rw [hk] at b; simp at b
theorem OwnAll.keep {base : Nat} {w w' : World} {vs : List Value} {L : List (List BI)} {Ls : List Nat} (h : OwnAll base w vs L) (ho : OnlyL Ls w w') (hn : ∀ g ∈ Ls, ∀ (i : Nat) (v : Value), vs[i]? = some v → v.ownBlock ≠ some g) : OwnAll base w' vs L :=
  ⟨h.len, fun i v l a b => by
    obtain ⟨hl, hc⟩ := h.own i v l a b
    refine ⟨hl, ?_⟩
    rcases hc with h1 | ⟨g, cap, cur, rfl, hb, hg, h1⟩
    · exact .inl h1
    · exact .inr ⟨g, cap, cur, rfl, hb, ho.keep hg (fun hm => hn g hm i _ a rfl), h1⟩, h.apart⟩
theorem OwnAll.types {base b2 e2 z2 n2 : Nat} {w : World} {vs : List Value} {L : List (List BI)} {v : Value} {xs : List Value} (h : OwnAll base w vs L) (h2 : w.ownsRow b2 e2 z2 v n2 xs) (hne : e2 ≠ 31) : ∀ g ∈ v.ownBlock.toList, ∀ (i : Nat) (u : Value), vs[i]? = some u → u.ownBlock ≠ some g := by
  intro g hg i u hu
  have hi := (List.getElem?_eq_some_iff.1 hu).1
  have h3 := h.own i u (L[i]'(by rw [← h.len]; exact hi)) hu (List.getElem?_eq_getElem _)
  have hv : v.ownBlock = some g := by simpa using hg
  intro e
  obtain ⟨_, hc⟩ := h2
  obtain ⟨_, hd⟩ := h3
  rcases hc with ⟨rfl, _⟩ | ⟨g1, c1, cur1, rfl, _, hg1, _⟩
  · cases hv
  · rcases hd with ⟨rfl, _⟩ | ⟨g2, c2, cur2, rfl, _, hg2, _⟩
    · cases e
    · cases e; cases hv
      rw [hg1] at hg2
      cases hg2
      exact hne rfl
theorem own_take {w : World} {base g n c : Nat} {l r : List BI} (h : Own encR 4 31 base w (.slice (some ⟨g, 0, none⟩) n c) (l ++ r)) : RowAt encR 4 w w.heap.size (some ⟨g, 0, none⟩) l := by
  obtain ⟨A, c', e, _, _, hr⟩ := Own.rows (fun x _ => encR_len x) h
  injection e with e
  subst e
  have := hr.take l.length
  rwa [List.take_left] at this
theorem OnlyL.wide {L L' : List Nat} {a w : World} (h : OnlyL L a w) (hs : ∀ k ∈ L, k ∈ L') : OnlyL L' a w := ⟨h.os, h.tape, h.output, h.size, fun k hk hn => h.block k hk (fun e => hn (hs k e))⟩
theorem partsV_R {gs : List (Rat × Rat)} {x : Rat} {E : Nat → Addr} {base : Nat} {w : World} {v err : Value} (hs : scaleE (gs.map bR) = none) (hx : Good x) (h : PartsV E base w (partsI (gs.map bR) x.num x.den) v err) : Own encF 2 24 base w v ((partsR gs x).map fq) := by
  rw [partsI_good (askE_ok hs (by rw [validB_good]; exact decide_eq_true hx))] at h
  unfold partsR
  cases hn : noneO (bearsO x gs)
  · rw [hn] at h
    rw [if_neg (by decide)] at h ⊢
    exact h.1
  · rw [hn] at h
    rw [if_pos rfl] at h ⊢
    rw [h.1]
    exact Own.nil
theorem withL_len (f : Rat → Rat → Option Rat) (s t : List (Rat × Rat)) (l : List Rat) : (withL f s t l).length ≤ 32 := by
  unfold withL
  split
  · exact Nat.zero_le _
  · split
    · exact Nat.zero_le _
    · omega
theorem normL_len1 (s : List (Rat × Rat)) : (normL s).length ≤ s.length + 1 := by
  unfold normL
  split
  · exact Nat.le_add_left 1 s.length
  · exact Nat.le_trans (few_len 0 s) (Nat.le_succ _)
theorem timesR_len (k : Rat) (s : List (Rat × Rat)) : (timesR k s).length ≤ s.length + 2 := by
  unfold timesR
  split
  · exact Nat.zero_le _
  · rename_i o ho
    have := normL_len1 o
    have := normL_len1 s
    have := timesO_len ho
    omega
theorem third {α : Type} {p q a b d a1 b1 d1 v : α} {j : Nat} (h : [a, b, d][j]? = some v) : [p, q, a, b, d, a1, b1, d1][j + 2]? = some v ∧ [a, b, d, a1, b1, d1][j]? = some v := by
  match j, h with
  | 0, h => exact ⟨h, h⟩
  | 1, h => exact ⟨h, h⟩
  | 2, h => exact ⟨h, h⟩
  | n + 3, h => simp at h
theorem own_form {w : World} {base e size n : Nat} {v : Value} {xs : List Value} (h : w.ownsRow base e size v n xs) : ∃ A c, v = .slice A n c := by
  obtain ⟨_, hc⟩ := h
  rcases hc with ⟨rfl, rfl⟩ | ⟨g, cap, cur, rfl, _⟩
  · exact ⟨_, _, rfl⟩
  · exact ⟨_, _, rfl⟩
theorem mem3 {a b d v : Value} {m k : Nat} {X Y : List Nat} (h : [a, b, d][m]? = some v) (hk : k ∈ v.ownBlock.toList) : k ∈ X ++ a.ownBlock.toList ++ b.ownBlock.toList ++ d.ownBlock.toList ++ Y := by
  simp only [List.mem_append]
  match m, h with
  | 0, h => cases h; exact .inl (.inl (.inl (.inr hk)))
  | 1, h => cases h; exact .inl (.inl (.inr hk))
  | 2, h => cases h; exact .inl (.inr hk)
  | n + 3, h => simp at h
theorem partsR_len (gs : List (Rat × Rat)) (x : Rat) : (partsR gs x).length ≤ gs.length := by
  unfold partsR
  split
  · exact Nat.zero_le _
  · exact Nat.le_trans (valsO_len _) (bears_len x gs)
theorem sameParts (gs : List (Rat × Rat)) (x : Rat) (A B : Option Addr) (c d : Nat) (w : World) (hl : RowAt encF 2 w w.heap.size A ((partsR gs x).map fq)) (hm : RowAt encF 2 w w.heap.size B ((partsR gs x).map fq)) (h1 : (partsR gs x).length ≤ 1000) :
    Calls Tryd.prog 18 #[.slice A (partsR gs x).length c, .slice B (partsR gs x).length d] w fun e w' => e = .returned (.bool true) ∧ Below w.heap.size w w' := by
  have q := sameFracs_any ((partsR gs x).map fq) ((partsR gs x).map fq) A B c d w hl hm (by rw [List.length_map]; omega)
  rw [List.length_map, decide_eq_true (rfl : (partsR gs x).map fq = (partsR gs x).map fq)] at q
  exact q
theorem sameBr_good (gs : List (Rat × Rat)) (A B : Option Addr) (c d : Nat) (w : World) (hl : RowAt encR 4 w w.heap.size A (gs.map bR)) (hm : RowAt encR 4 w w.heap.size B (gs.map bR)) (h1 : gs.length ≤ 1000) :
    Calls Tryd.prog 13 #[.slice A gs.length c, .slice B gs.length d] w fun e w' => e = .returned (.bool true) ∧ Below w.heap.size w w' := by
  have q := sameBr_any (gs.map bR) A B c d w hl hm (by rw [List.length_map]; omega)
  rw [List.length_map] at q
  exact q
/-- a header of a slice, among those of a slice of the call's own -/
theorem encS_len (v : Value) : (encS v).length = 1 := rfl
theorem own_head {w : World} {base g n c : Nat} {vs : List Value} {k : Nat} {v : Value} (h : Own encS 1 22 base w (.slice (some ⟨g, 0, none⟩) n c) vs) (hk : vs[k]? = some v) : w.cell? ⟨g, k, none⟩ = some v ∧ ∀ o, w.frozen? ⟨g, o, none⟩ = false := by
  obtain ⟨g1, c1, e1, _, _, hrow, hfz⟩ := own_cellsS (fun x _ => encS_len x) (fun e => by rw [e] at hk; cases hk) h
  injection e1 with e1
  injection e1 with e1
  injection e1 with e1
  subst e1
  obtain ⟨g2, off2, e2, _, hc⟩ := hrow k v hk
  cases e2
  have h0 := hc 0 _ rfl
  rw [Nat.zero_add, Nat.mul_one] at h0
  exact ⟨h0, hfz⟩
/-- two rows of unlike elements lie apart -/
theorem own_types {w : World} {b1 b2 e1 e2 z1 z2 n1 n2 : Nat} {v1 v2 : Value} {x1 x2 : List Value} (h1 : w.ownsRow b1 e1 z1 v1 n1 x1) (h2 : w.ownsRow b2 e2 z2 v2 n2 x2) (hne : e1 ≠ e2) (g : Nat) (e : v1.ownBlock = some g) : v2.ownBlock ≠ some g := by
  intro e'
  obtain ⟨_, hc⟩ := h1
  obtain ⟨_, hd⟩ := h2
  rcases hc with ⟨rfl, _⟩ | ⟨g1, c1, cur1, rfl, _, hg1, _⟩
  · cases e
  · rcases hd with ⟨rfl, _⟩ | ⟨g2, c2, cur2, rfl, _, hg2, _⟩
    · cases e'
    · cases e; cases e'
      rw [hg1] at hg2
      cases hg2
      exact hne rfl
theorem own_only {w w' : World} {base e size n : Nat} {v : Value} {xs : List Value} {L : List Nat} (h : w.ownsRow base e size v n xs) (ho : OnlyL L w w') (hn : ∀ g, v.ownBlock = some g → g ∉ L) : w'.ownsRow base e size v n xs := by
  obtain ⟨hl, hc⟩ := h
  refine ⟨hl, ?_⟩
  rcases hc with h1 | ⟨g, cap, cur, rfl, hb, hg, h1⟩
  · exact .inl h1
  · exact .inr ⟨g, cap, cur, rfl, hb, ho.keep hg (hn g rfl), h1⟩
theorem row_only {α : Type} {enc : α → List Value} {size B : Nat} {w w' : World} {A : Option Addr} {l : List α} {L : List Nat} (h : RowAt enc size w B A l) (ho : OnlyL L w w') (hB : B ≤ w.heap.size) (hn : ∀ k ∈ L, B ≤ k) : RowAt enc size w' B A l := fun k x hx => by
  obtain ⟨b, off, h1, h2, h3⟩ := h k x hx
  exact ⟨b, off, h1, h2, fun j u hj => (World.cell?_of_block (a := ⟨b, off + k * size + j, none⟩) (ho.block b (by omega) (fun hm => by have := hn b hm; omega))).trans (h3 j u hj)⟩

end Go.Proofs.YtmankldedhgdiaaDoor
