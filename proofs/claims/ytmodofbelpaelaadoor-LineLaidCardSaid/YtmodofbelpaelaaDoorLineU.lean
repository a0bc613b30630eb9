/- The document's days: Ints, Put: walks. -/
import Derived.Test.YtmodofbelpaelaaDoorLineJ
import Derived.Test.YtmodofbelpaelaaDoorLineP
namespace Go.Proofs.YtmodofbelpaelaaDoor
open Go.RowKit

set_option maxHeartbeats 1000000 in
theorem ints6_any (l : List Int) (n : Nat) (A : Option Addr) (c : Nat) (w : World) (h : l.length = n) (hl : RowAt encI 1 w w.heap.size A l) (hn : n ≤ 1000000) :
    Calls Tryd.prog 173 #[.slice A n c] w fun e w' => ∃ v, e = .returned v ∧ Own encI 1 3 w.heap.size w' v l ∧ Below w.heap.size w w' := by
  subst h
  obtain ⟨i0, hi, jz0, jz1, jz2⟩ := info_parts infoInt
  have HL := Lib.hid hl
  clear hl
  go_enter Tryd.func173, Tryd.ntmps173
  go_wp2_with (at_make; go_must (refine wpList_make_own _ rfl _ _ 153 rfl w.heap.size 3 i0 _ 1 Tryd.underlying153 hi jz0 jz1 .i64 .i64 _ l.length rfl rfl rfl (by rw [jz2]; omega) (by unfold maxLen; omega) (Nat.le_refl _) ?_); intro w0 hown0 hgrow0)
  have hb0 : Below w.heap.size w w0 := (Below.refl _ _).grown hgrow0 (Nat.le_refl _) (fun k h => by cases h)
  go_loopw [3, 4] (fun v i wr => ∃ k : Nat, k ≤ l.length ∧ i = .int .i64 k ∧ wr.ownsRow w.heap.size 3 1 v k ((l.take k).flatMap encI) ∧ Below w.heap.size w wr) (fun _ i _ => l.length - (intOf i).toNat)
  case atStart => exact ⟨0, Nat.zero_le _, rfl, hown0, hb0⟩
  case round =>
    obtain ⟨k, hk, rfl, hown, hb⟩ := hrel
    have hz := hb.size
    by_cases hlt : k < l.length
    · obtain ⟨x, hx⟩ : ∃ x, l[k]? = some x := ⟨l[k], List.getElem?_eq_getElem hlt⟩
      obtain ⟨b, off, rfl, _, hc⟩ := HL.out.below hb (Nat.le_refl _) k _ hx
      have c0 : wr.cell? ⟨b, off + k, none⟩ = some (.int .i64 x) := by have := hc 0 _ rfl; simpa using this
      have HX := Lib.hid hx
      clear hx hc
      go_wp2_with (at_builtin; go_must (refine wpList_append_own _ rfl (.tmp 14) (.tmp 19) 153 rfl w.heap.size 3 i0 _ 1 8 Tryd.underlying153 hi jz0 jz1 jz2 rfl (by decide) _ k _ rfl (hown.alloc _) ⟨wr.heap.size, 0, none⟩ 1 1 [.int .i64 x] rfl rfl (cell_one_new _ _ _) (by simp [Value.oneCell']) (by unfold maxLen; omega) (by omega) (by simp; omega) ?_); intro v' w1 hown' hgrow _)
      go_roundw
      case rel =>
        refine ⟨k + 1, by omega, by go_num, ?_, (Below.alloc hb hz _).grown hgrow (by simp; omega) (fun g hg => (hown.lt g hg).1)⟩
        rw [take_snoc HX.out, List.flatMap_append]; simpa [encI] using hown'
      case measure => simp [intOf]; omega
    · obtain rfl : k = l.length := by omega
      go_wp2
      go_ret
      exact ⟨_, rfl, by unfold Own; simpa using hown, hb⟩

/-- a day put among days that rise -/
def putL : List Int → Int → List Int
  | [], n => [n]
  | a :: r, n => if a < n then a :: putL r n else if a = n then a :: r else n :: a :: r

theorem putL_mem {l : List Int} {n x : Int} : x ∈ putL l n ↔ x = n ∨ x ∈ l := by
  induction l with
  | nil => simp [putL]
  | cons a r ih =>
    rw [putL]
    split
    · rw [List.mem_cons, ih, List.mem_cons]
      constructor
      · rintro (h | h | h)
        · exact .inr (.inl h)
        · exact .inl h
        · exact .inr (.inr h)
      · rintro (h | h | h)
        · exact .inr (.inl h)
        · exact .inl h
        · exact .inr (.inr h)
    · split
      · rename_i h1 h2
        constructor
        · exact fun h => .inr h
        · rintro (h | h)
          · rw [h, ← h2]; exact List.mem_cons_self ..
          · exact h
      · rw [List.mem_cons]
theorem putL_rise {l : List Int} {n : Int} (h : l.Pairwise (· < ·)) : (putL l n).Pairwise (· < ·) := by
  induction l with
  | nil => simp [putL]
  | cons a r ih =>
    obtain ⟨h1, h2⟩ := List.pairwise_cons.1 h
    rw [putL]
    split
    · refine List.pairwise_cons.2 ⟨fun x hx => ?_, ih h2⟩
      rcases putL_mem.1 hx with rfl | hx
      · assumption
      · exact h1 x hx
    · split
      · exact h
      · refine List.pairwise_cons.2 ⟨fun x hx => ?_, h⟩
        rcases List.mem_cons.1 hx with rfl | hx
        · omega
        · have := h1 x hx; omega
theorem putL_len (l : List Int) (n : Int) : (putL l n).length ≤ l.length + 1 := by
  induction l with
  | nil => exact Nat.le_refl _
  | cons a r ih =>
    rw [putL]
    split
    · simp only [List.length_cons]; omega
    · split
      · simp
      · simp
/-- at the place where the day would stand -/
theorem putL_at {l : List Int} {n : Int} {k : Nat} (hk : k ≤ l.length) (hlo : ∀ (i : Nat) (x : Int), l[i]? = some x → i < k → x < n) : (∀ x, l[k]? = some x → ¬ x < n) → putL l n = if l[k]? = some n then l else l.take k ++ [n] ++ l.drop k := by
  intro hhi
  induction l generalizing k with
  | nil => have : k = 0 := by simpa using hk
           subst this; rfl
  | cons a r ih =>
    cases k with
    | zero =>
      have ha := hhi a rfl
      rw [putL, if_neg ha]
      by_cases e : a = n
      · rw [if_pos e, if_pos (by rw [e]; rfl)]
      · rw [if_neg e, if_neg (by simpa using e)]; rfl
    | succ k =>
      have ha := hlo 0 a rfl (Nat.succ_pos _)
      rw [putL, if_pos ha, ih (k := k) (by simpa using hk) (fun i x hi hlt => hlo (i + 1) x (by simpa using hi) (by omega)) (fun x hx => hhi x (by simpa using hx))]
      simp only [List.getElem?_cons_succ, List.take_succ_cons, List.drop_succ_cons]
      split <;> simp

theorem own_take {W : World} {base e size g n cap k : Nat} {xs : List Value} (h : W.ownsRow base e size (.slice (some ⟨g, 0, none⟩) n cap) n xs) (hk : k ≤ n) : W.ownsRow base e size (.slice (some ⟨g, 0, none⟩) k cap) k (xs.take (k * size)) := by
  obtain ⟨hlen, hc⟩ := h
  rcases hc with ⟨h0, _⟩ | ⟨g', cap', cur, hv, hb, hg, h1, h2, h3, h4⟩
  · cases h0
  cases hv
  have hks : k * size ≤ n * size := Nat.mul_le_mul_right _ hk
  refine ⟨by rw [List.length_take, hlen]; omega, .inr ⟨g, _, cur, rfl, hb, hg, by omega, h2, h3, ?_⟩⟩
  rw [← h4, List.take_take, Nat.min_eq_left hks]

theorem far_row {w9 w1 : World} {o : Obj} {row : Option Nat} {g : Nat} {xs : List Value} (hgrow : (w9.alloc o).grownBy w1 row) (hlt : g < w9.heap.size) (hne : some g ≠ row) (h : ∀ j u, xs[j]? = some u → w9.cell? ((⟨g, 0, none⟩ : Addr).add j) = some u) : ∀ j u, xs[j]? = some u → w1.cell? ((⟨g, 0, none⟩ : Addr).add j) = some u := fun j u hj => by
  have h0 := h j u hj
  rw [Go.WideShapes.add_plain] at h0 ⊢
  exact (World.grownBy.cell_far hgrow ⟨g, 0 + j, none⟩ (by simp; omega) hne).trans (cell_alloc h0)
theorem grown_size {w9 w1 : World} {o : Obj} {row : Option Nat} (hgrow : (w9.alloc o).grownBy w1 row) : w9.heap.size + 1 ≤ w1.heap.size := by have h := hgrow.size; simpa using h

end Go.Proofs.YtmodofbelpaelaaDoor
