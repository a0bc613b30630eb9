/- slices.Clone at brackets, Tops and its iterator: walks. -/
import Derived.Test.YtmodofbelpaelaaDoorScaleH
import Derived.Test.YtmodofbelpaelaaDoorSeq
namespace Go.Proofs.YtmodofbelpaelaaDoor
open Go.RowKit Go.Shelf
attribute [local go_sem] Oper.semAt_some

theorem infoBr : (Tryd.prog.info? 33).map (fun i => (i.zero, i.size, i.bytes)) = some (some (.agg #[.int .i64 0, .int .i64 0, .int .i64 0, .int .i64 0]), 4, 32) := by kernel_rfl

theorem encR_flat (s : List BI) : (s.flatMap encR).length = s.length * 4 := flat_len (fun x _ => encR_len x)

theorem encR_one (s : List BI) : ∀ u ∈ s.flatMap encR, u.oneCell' = true := by
  intro u hu
  obtain ⟨b, _, hb⟩ := List.mem_flatMap.1 hu
  simp only [encR, List.mem_cons, List.not_mem_nil, or_false] at hb
  rcases hb with rfl | rfl | rfl | rfl <;> rfl

theorem row_flat {w : World} {B g off : Nat} {s : List BI} (h : RowAt encR 4 w B (some ⟨g, off, none⟩) s) : ∀ j u, (s.flatMap encR)[j]? = some u → w.cell? ((⟨g, off, none⟩ : Addr).add j) = some u := by
  intro j u hj
  have hlt : j < s.length * 4 := by rw [← encR_flat]; exact (List.getElem?_eq_some_iff.1 hj).1
  obtain ⟨b, hb⟩ : ∃ b, s[j / 4]? = some b := ⟨s[j / 4]'(by omega), List.getElem?_eq_getElem _⟩
  obtain ⟨g', off', e, _, hc⟩ := h (j / 4) b hb
  injection e with e
  injection e with e1 e2
  subst e1 e2
  have hm : j % 4 < (encR b).length := by rw [encR_len]; omega
  have hf := flat_at (l := s) (enc := encR) (size := 4) (fun x _ => encR_len x) hb (List.getElem?_eq_getElem hm)
  rw [show j / 4 * 4 + j % 4 = j by omega, hj] at hf
  have := hc (j % 4) _ (List.getElem?_eq_getElem hm)
  rw [← hf, show off + j / 4 * 4 + j % 4 = off + j by omega] at this
  rw [Go.WideShapes.add_plain]
  exact this

theorem row_none {w : World} {B : Nat} {s : List BI} (h : RowAt encR 4 w B none s) : s = [] := by
  cases s with
  | nil => rfl
  | cons b r => obtain ⟨_, _, e, _⟩ := h 0 b rfl; cases e

set_option maxRecDepth 100000 in
set_option maxHeartbeats 4000000 in
theorem cloneB_any (s : List BI) (A : Option Addr) (c : Nat) (w : World) (hl : RowAt encR 4 w w.heap.size A s) (hm : s.length ≤ 1000) :
    Calls Tryd.prog 52 #[.slice A s.length c] w fun e w' => ∃ v, e = .returned v ∧ Own encR 4 33 w.heap.size w' v s ∧ Below w.heap.size w w' := by
  obtain ⟨inf0, hi, jz0, jz1, jz2⟩ := info_parts infoBr
  have HL := Lib.hid hl
  clear hl
  cases A with
  | none =>
    obtain rfl := row_none HL.out
    have hsn := fun (w : World) => Lib.run_eql_slice_nil (P := Tryd.prog) w 22 33 none 0 c 0 0 Tryd.underlying22
    go_enter Tryd.func52, Tryd.ntmps52
    go_wp2_with fail
    go_ret
    exact ⟨_, rfl, Own.nil, by (repeat' (first | with_reducible exact Below.refl _ _ | with_reducible assumption | with_reducible refine Below.drew ?_ | with_reducible refine below_drewN ?_ _ | with_reducible refine Below.setCell ?_ ?_ _ | with_reducible refine Below.alloc ?_ ?_ _ | omega | (simp; done) | (simp; omega)))⟩
  | some a =>
    have hsn := fun (w : World) => Lib.run_eql_slice_nil (P := Tryd.prog) w 22 33 (some a) s.length c 0 0 Tryd.underlying22
    have HN := Lib.hid (encR_flat s)
    have H1 := Lib.hid (encR_one s)
    have hrow : Hid (∀ j u, (s.flatMap encR)[j]? = some u → w.cell? (a.add j) = some u) := by
      cases s with
      | nil => exact Lib.hid (fun j u h => by simp at h)
      | cons b r =>
        obtain ⟨g, off, e, _⟩ := HL.out 0 b rfl
        injection e with e
        subst e
        exact Lib.hid (row_flat HL.out)
    have e0 : Hid ((w.alloc (.cells #[] 33)).ownsRow w.heap.size 33 4 (.slice (some ⟨w.heap.size, 0, none⟩) 0 0) 0 []) :=
      ⟨rfl, .inr ⟨w.heap.size, 0, #[], rfl, Nat.le_refl _, blk_new rfl, Nat.le_refl _, by simp, rfl, rfl⟩⟩
    go_enter Tryd.func52, Tryd.ntmps52
    go_wp2_with (at_builtin; go_must (refine wpList_append_own _ rfl (.tmp 5) (.tmp 6) 22 rfl w.heap.size 33 inf0 _ 4 32 Tryd.underlying22 hi jz0 jz1 jz2 rfl (by decide) _ 0 [] rfl e0.out a s.length c (s.flatMap encR) rfl HN.out (fun j u h => cell_alloc (hrow.out j u h)) H1.out (by unfold maxLen; omega) (by omega) (by simp) ?_); intro v' w9 hown9 hgrow9 _)
    go_ret
    refine ⟨_, rfl, ?_, ?_⟩
    · unfold Own
      simpa using hown9
    · exact (Below.alloc (Below.refl _ _) (Nat.le_refl _) _).grown hgrow9 (by simp) (fun k e => by cases e; exact Nat.le_refl _)

theorem tops_any (s : List BI) (A : Option Addr) (c : Nat) (w : World) (hl : RowAt encR 4 w w.heap.size A s) (hm : s.length ≤ 1000) :
    Calls Tryd.prog 8 #[.slice A s.length c] w fun e w' => ∃ (Bx : Nat) (A' : Option Addr) (c' : Nat), e = .returned (.func (.func 53) #[] #[.pointer (some ⟨Bx, 0, none⟩)]) ∧ w.heap.size ≤ Bx ∧ Hid (w'.heap[Bx]? = some (.cells #[.slice A' s.length c'] 22 (0, 0))) ∧ RowAt encR 4 w' w'.heap.size A' s ∧ (∀ a, A' = some a → w.heap.size ≤ a.block ∧ a.block < w'.heap.size) ∧ Below w.heap.size w w' := by
  have HL := Lib.hid hl
  clear hl
  go_enter Tryd.func8, Tryd.ntmps8
  go_wp2_with fail
  refine (cloneB_any s A c _ ((HL.out.below (by (repeat' (first | with_reducible exact Below.refl _ _ | with_reducible assumption | with_reducible refine Below.drew ?_ | with_reducible refine below_drewN ?_ _ | with_reducible refine Below.setCell ?_ ?_ _ | with_reducible refine Below.alloc ?_ ?_ _ | omega | (simp; done) | (simp; omega)))) (Nat.le_refl _)).more (by simp)) hm).mono ?_
  rintro e w1 ⟨v, rfl, hown, hb1⟩
  have hw1 : Below w.heap.size w w1 := stepH (by (repeat' (first | with_reducible exact Below.refl _ _ | with_reducible assumption | with_reducible refine Below.drew ?_ | with_reducible refine below_drewN ?_ _ | with_reducible refine Below.setCell ?_ ?_ _ | with_reducible refine Below.alloc ?_ ?_ _ | omega | (simp; done) | (simp; omega)))) hb1
  have S := keepH hb1 (g := w.heap.size) (blk_new rfl)
  have z1 := hw1.size
  clear hb1
  have cS := cellH S
  obtain ⟨lS, lS1, lS2⟩ := ltH S
  have hb9 : ∀ a, v = .slice (some a) s.length 0 → True := fun _ _ => trivial
  clear hb9
  obtain ⟨A2, c2, hv, _, _, hrow⟩ := Own.rows (fun x _ => encR_len x) hown
  have hA2 : ∀ a, A2 = some a → w.heap.size < a.block ∧ a.block < w1.heap.size := by
    intro a ha
    subst hv ha
    rcases hown.2 with ⟨h, _⟩ | ⟨g, cap, cur, h, hg, h5, _⟩
    · cases h
    · injection h with h1 h2 h3; injection h1 with h1; subst h1; simp at hg; exact ⟨(by show w.heap.size < g; omega), (Array.getElem?_eq_some_iff.1 h5).1⟩
  have HROW := Lib.hid hrow
  subst hv
  clear hown hrow
  have fS := frozH S
  go_wp2_with fail
  go_ret
  refine ⟨w.heap.size, A2, c2, rfl, Nat.le_refl _, setBox S.out _, ?_, fun a ha => ⟨Nat.le_of_lt (hA2 a ha).1, by simp; exact (hA2 a ha).2⟩, by (repeat' (first | with_reducible exact Below.refl _ _ | with_reducible assumption | with_reducible refine Below.drew ?_ | with_reducible refine below_drewN ?_ _ | with_reducible refine Below.setCell ?_ ?_ _ | with_reducible refine Below.alloc ?_ ?_ _ | omega | (simp; done) | (simp; omega)))⟩
  have hk : ∀ k x, s[k]? = some x → ∃ b off, A2 = some ⟨b, off, none⟩ ∧ b < w1.heap.size ∧ ∀ j u, (encR x)[j]? = some u → w1.cell? ⟨b, off + k * 4 + j, none⟩ = some u := HROW.out
  intro k x hx
  obtain ⟨b, off, e1, e2, e3⟩ := hk k x hx
  have hne := (hA2 _ e1).1
  exact ⟨b, off, e1, by simp; exact e2, fun j u hj => cell_set (e3 j u hj) (by dsimp only at hne ⊢; omega)⟩

end Go.Proofs.YtmodofbelpaelaaDoor
