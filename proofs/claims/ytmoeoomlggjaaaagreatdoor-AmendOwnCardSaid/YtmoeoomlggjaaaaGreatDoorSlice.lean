/- Slices in memory: what a slice reads as, element by element (RowAt), and what a slice of the call's own holds. -/
import Derived.Below
import Derived.Laws.OwnMore
import Derived.Laws.AppendOwn
import Derived.Deep.AppendLies
import Derived.Deep.Draws
import Derived.Deep.Slices
import Derived.Deep.Fields
import Derived.ChangeSame
import Derived.Maps.AppendAt
namespace Go.Proofs.YtmoeoomlggjaaaaGreatDoor
open Go.RowKit Go.ChangeShapes Go.WideShapes Go.Deep

/-- the slice at A reads as l, each element in 'size' cells by enc; all of it lies below block B -/
def RowAt {α : Type} (enc : α → List Value) (size : Nat) (w : World) (B : Nat) (A : Option Addr) (l : List α) : Prop :=
  ∀ k x, l[k]? = some x → ∃ b off, A = some ⟨b, off, none⟩ ∧ b < B ∧ ∀ j u, (enc x)[j]? = some u → w.cell? ⟨b, off + k * size + j, none⟩ = some u

section
variable {α : Type} {enc : α → List Value} {size B B' : Nat} {w w' : World} {A : Option Addr} {l : List α}
theorem RowAt.nil : RowAt enc size w B A [] := fun k x h => by simp at h
theorem RowAt.more (h : RowAt enc size w B A l) (hB : B ≤ B') : RowAt enc size w B' A l := fun k x hx => by
  obtain ⟨b, off, h1, h2, h3⟩ := h k x hx
  exact ⟨b, off, h1, by omega, h3⟩
theorem RowAt.below (h : RowAt enc size w B A l) (hb : Below B' w w') (hB : B ≤ B') : RowAt enc size w' B A l := fun k x hx => by
  obtain ⟨b, off, h1, h2, h3⟩ := h k x hx
  exact ⟨b, off, h1, h2, fun j u hj => (hb.cell (p := ⟨b, _, none⟩) (by show b < B'; omega)).trans (h3 j u hj)⟩
theorem RowAt.take (h : RowAt enc size w B A l) (n : Nat) : RowAt enc size w B A (l.take n) := fun k x hx => by
  rw [List.getElem?_take] at hx
  split at hx
  · exact h k x hx
  · cases hx
theorem RowAt.drop (h : RowAt enc size w B A l) (n c : Nat) (hc : l.length ≤ c) : RowAt enc size w B (if c = n then A else A.map (·.add (n * size))) (l.drop n) := fun k x hx => by
  rw [List.getElem?_drop] at hx
  have hlt : n + k < l.length := (List.getElem?_eq_some_iff.1 hx).1
  obtain ⟨b, off, rfl, h2, h3⟩ := h _ x hx
  rw [if_neg (by omega)]
  refine ⟨b, off + n * size, ?_, h2, fun j u hj => ?_⟩
  · simp only [Option.map_some, Addr.add]
    split
    · rename_i h0; rw [h0]; rfl
    · rfl
  · rw [← h3 j u hj, Nat.add_mul]
    congr 2
    omega
theorem RowAt.keep (h : RowAt enc size w B A l) (hk : ∀ p : Addr, p.block < B → w'.cell? p = w.cell? p) : RowAt enc size w' B A l := fun k x hx => by
  obtain ⟨b, off, h1, h2, h3⟩ := h k x hx
  exact ⟨b, off, h1, h2, fun j u hj => (hk ⟨b, _, none⟩ h2).trans (h3 j u hj)⟩

theorem flat_at (hs : ∀ x ∈ l, (enc x).length = size) {k : Nat} {x : α} (hk : l[k]? = some x) {j : Nat} {u : Value} (hj : (enc x)[j]? = some u) : (l.flatMap enc)[k * size + j]? = some u := by
  induction l generalizing k with
  | nil => simp at hk
  | cons y r ih =>
    have hy := hs y (List.mem_cons_self ..)
    rw [List.flatMap_cons]
    cases k with
    | zero =>
      simp only [List.getElem?_cons_zero, Option.some.injEq] at hk
      subst hk
      have : j < (enc y).length := (List.getElem?_eq_some_iff.1 hj).1
      rw [Nat.zero_mul, Nat.zero_add, List.getElem?_append_left this, hj]
    | succ k =>
      simp only [List.getElem?_cons_succ] at hk
      rw [List.getElem?_append_right (by rw [hy, Nat.succ_mul]; omega), hy, ← ih (fun z hz => hs z (List.mem_cons_of_mem _ hz)) hk]
      congr 1
      rw [Nat.succ_mul]; omega
theorem flat_len (hs : ∀ x ∈ l, (enc x).length = size) : (l.flatMap enc).length = l.length * size := by
  induction l with
  | nil => simp
  | cons y r ih =>
    rw [List.flatMap_cons, List.length_append, hs y (List.mem_cons_self ..), ih (fun z hz => hs z (List.mem_cons_of_mem _ hz)), List.length_cons, Nat.succ_mul]
    omega

/-- v is a slice of the call's own (a block from base on) and holds l -/
def Own (enc : α → List Value) (size : Nat) (e : TypeId) (base : Nat) (w : World) (v : Value) (l : List α) : Prop := w.ownsRow base e size v l.length (l.flatMap enc)

theorem Own.rows {e base : Nat} {v : Value} (hs : ∀ x ∈ l, (enc x).length = size) (h : Own enc size e base w v l) : ∃ A c, v = .slice A l.length c ∧ l.length ≤ c ∧ c ≤ maxLen ∧ RowAt enc size w w.heap.size A l := by
  obtain ⟨hlen, hc⟩ := h
  rcases hc with ⟨rfl, h0⟩ | ⟨g, cap, cur, rfl, _, hg, h1, h2, h3, h4⟩
  · obtain rfl := List.eq_nil_of_length_eq_zero h0
    exact ⟨none, 0, rfl, Nat.le_refl _, by simp, RowAt.nil⟩
  · have hlt : g < w.heap.size := by
      rcases Nat.lt_or_ge g w.heap.size with hl | hge
      · exact hl
      · rw [Array.getElem?_eq_none hge] at hg; cases hg
    refine ⟨_, cap, rfl, h1, h2, fun k x hx => ⟨g, 0, rfl, hlt, fun j u hj => ?_⟩⟩
    have hf := flat_at hs hx hj
    rw [← h4] at hf
    have hi : k * size + j < l.length * size := by
      rcases Nat.lt_or_ge (k * size + j) (l.length * size) with hl | hge
      · exact hl
      · rw [List.getElem?_take, if_neg (by omega)] at hf; cases hf
    rw [List.getElem?_take, if_pos hi] at hf
    rw [Nat.zero_add, cell_of_row w g _ cur e (0, 0) hg, ← hf]
    simp
theorem own_below {e base n : Nat} {v : Value} {xs : List Value} (h : w.ownsRow base e size v n xs) (hb : Below w.heap.size w w') : w'.ownsRow base e size v n xs :=
  h.kept (row := none) ⟨hb.os, hb.tape, hb.output, hb.size, fun i hi _ => hb.block i hi⟩ (by cases v.ownBlock <;> simp)
theorem Own.below {e base : Nat} {v : Value} (h : Own enc size e base w v l) (hb : Below w.heap.size w w') : Own enc size e base w' v l := own_below h hb
theorem Own.nil {e base : Nat} : Own enc size e base w (.slice none 0 0) [] := World.ownsRow_nil w base e size
theorem Own.snoc {e base n : Nat} {v : Value} {x : α} {xs : List Value} (h : w.ownsRow base e size v n xs) (hn : n = l.length + 1) (hx : xs = l.flatMap enc ++ enc x) : Own enc size e base w v (l ++ [x]) := by
  subst hn hx
  unfold Own
  rw [List.length_append, List.flatMap_append, List.length_singleton]
  simpa using h
end

section
variable {H : Type} {ench : TypeId × Value → H} {P : Program} {w : World} {base : Nat} {spare : Nat → Bool} {held : Bool}
/-- an argument that is a slice, opened: what each element's reading gives is said by hel -/
theorem open_rows {α : Type} {enc : α → List Value} {good : α → Prop} {size : Nat} {t e : TypeId} {fuel : Nat} {cs : List Value} {x : DataW H × List MemPlace} (hsz : 0 < size) (hlen : ∀ x, (enc x).length = size)
    (ht : P.underlying t = some (.slice e)) (hC : P.cellsOf e = size) (hel : ∀ n cs y, cs.length = size → DataW.trod ench P w base spare held n e cs = some y → ∃ x, cs = enc x ∧ good x)
    (h : DataW.trod ench P w base spare held fuel t cs = some x) : ∃ A c, ∃ l : List α, cs = [.slice A l.length c] ∧ l.length ≤ c ∧ c ≤ maxLen ∧ RowAt enc size w w.heap.size A l ∧ ∀ x ∈ l, good x := by
  rcases open_slice ht h with ⟨rfl, _⟩ | ⟨a, len, cap, m, n, D, Pl, rfl, hb, hl, hm, hmm, _, hi⟩
  · exact ⟨none, 0, [], rfl, Nat.le_refl _, by simp, RowAt.nil, fun x hx => by simp at hx⟩
  · have hle : len ≤ m := by subst hmm; split <;> omega
    have hone : ∀ i, i < len → ∃ x : α, good x ∧ ∀ j u, (enc x)[j]? = some u → w.cell? ((a.add (i * size)).add j) = some u := fun i him => by
      obtain ⟨cs', hc, ht'⟩ := hi i (by omega)
      obtain ⟨_, hcl, hat⟩ := World.cells?_some hc
      obtain ⟨x, rfl, hx⟩ := hel _ _ _ (hcl.trans hC) ht'
      refine ⟨x, hx, fun j u hj => ?_⟩
      have : j < (enc x).length := (List.getElem?_eq_some_iff.1 hj).1
      rw [← hC, hat j (by omega), hj]
    obtain ⟨f, hf⟩ : ∃ f : Fin len → α, ∀ i : Fin len, good (f i) ∧ ∀ j u, (enc (f i))[j]? = some u → w.cell? ((a.add (i * size)).add j) = some u :=
      ⟨fun i => Classical.choose (hone i i.2), fun i => Classical.choose_spec (hone i i.2)⟩
    refine ⟨some a, cap, List.ofFn f, by simp, by simpa using hl, hm, fun k x hx => ?_, fun x hx => ?_⟩
    · rw [List.getElem?_ofFn] at hx
      split at hx
      · rename_i hk
        simp only [Option.some.injEq] at hx
        subst hx
        obtain ⟨_, h2⟩ := hf ⟨k, hk⟩
        obtain ⟨b, off, spot⟩ := a
        have h0 : (enc (f ⟨k, hk⟩))[0]? = some ((enc (f ⟨k, hk⟩))[0]'(by rw [hlen]; exact hsz)) := List.getElem?_eq_getElem _
        have hc0 := h2 0 _ h0
        have hspot : spot = none := by
          obtain ⟨_, h2'⟩ := hf ⟨0, by omega⟩
          have h0' : (enc (f ⟨0, by omega⟩))[0]? = some ((enc (f ⟨0, by omega⟩))[0]'(by rw [hlen]; exact hsz)) := List.getElem?_eq_getElem _
          have := World.cell?_spot (h2' 0 _ h0')
          simpa [Addr.add] using this
        subst hspot
        refine ⟨b, off, rfl, ?_, fun j u hj => ?_⟩
        · have hbk : ∀ (y : Addr) (n : Nat), (y.add n).block = y.block := fun y n => by unfold Addr.add; split <;> rfl
          have : (((⟨b, off, none⟩ : Addr).add (k * size)).add 0).block = b := by rw [hbk, hbk]
          rcases Nat.lt_or_ge b w.heap.size with hlt | hge
          · exact hlt
          · simp only [World.cell?, this, Array.getElem?_eq_none hge] at hc0; cases hc0
        · have := h2 j u hj
          rw [Go.WideShapes.add_plain, Go.WideShapes.add_plain] at this
          exact this
      · cases hx
    · obtain ⟨i, hi'⟩ := List.mem_ofFn.1 hx
      exact hi' ▸ (hf i).1
end
end Go.Proofs.YtmoeoomlggjaaaaGreatDoor
