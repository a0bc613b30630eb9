/- The document's ledger in memory: Place, under, refuses, Note: walks. -/
import Derived.Test.YtodlbfekoohpoaaDoorNameR
import Derived.Test.YtodlbfekoohpoaaDoorBootJ
namespace Go.Proofs.YtodlbfekoohpoaaDoor
open Go.RowKit

/-- the document's ledger at block r -/
structure RL (b : Nat) (w : World) (r : Nat) (v : Value) (N : List Nt) : Prop where
  box : w.heap[r]? = some (.cells #[v, .slice none 0 0, .bool false] 69 (0, 0))
  own : Own encN 2 39 b w v N
  hr : b ≤ r
  ne : v.ownBlock ≠ some r
  len : N.length ≤ 200
theorem RL.below {b : Nat} {w w' : World} {r : Nat} {v : Value} {N : List Nt} (h : RL b w r v N) (hb : Below w.heap.size w w') : RL b w' r v N := ⟨(hb.block r (Array.getElem?_eq_some_iff.1 h.box).1).trans h.box, h.own.below hb, h.hr, h.ne, h.len⟩
theorem RL.same {b : Nat} {w w' : World} {r : Nat} {v : Value} {N : List Nt} (h : RL b w r v N) (hk : ∀ k, (k = r ∨ v.ownBlock = some k) → w'.heap[k]? = w.heap[k]?) : RL b w' r v N :=
  ⟨(hk r (.inl rfl)).trans h.box, by
    refine ⟨h.own.1, ?_⟩
    rcases h.own.2 with hn | ⟨g, cap, cur, hv, hb, hgg, rest⟩
    · exact .inl hn
    · exact .inr ⟨g, cap, cur, hv, hb, (hk g (.inr (by rw [hv]; rfl))).trans hgg, rest⟩, h.hr, h.ne, h.len⟩
theorem idxN_ne {N : List Nt} {s : ByteArray} (h : idxN N s = none) : ∀ x ∈ N, x.1 ≠ s := by
  induction N with
  | nil => intro x hx; cases hx
  | cons y r ih =>
    unfold idxN at h
    split at h
    · cases h
    · rename_i hy
      have hr : idxN r s = none := by cases e : idxN r s with | none => rfl | some i => rw [e] at h; cases h
      intro x hx
      rcases List.mem_cons.1 hx with rfl | hx
      · exact hy
      · exact ih hr x hx

set_option maxRecDepth 10000 in
set_option maxHeartbeats 4000000 in
theorem underR_any (b r : Nat) (v : Value) (N : List Nt) (s : ByteArray) (w : World) (h : RL b w r v N) : Calls Tryd.prog 48 #[.pointer (some ⟨r, 0, none⟩), .string s] w fun e w' => e = .returned (.bool false) ∧ Below w.heap.size w w' := by
  have BX := Lib.hid h.box
  have cB := cellH BX
  clear h
  go_enter Tryd.func48, Tryd.ntmps48
  go_wp2_with fail
  go_loopw [5] (fun i wr => i = .int .i64 0 ∧ Below w.heap.size w wr) (fun _ _ => 0)
  case atStart => exact ⟨rfl, Below.refl _ _⟩
  case round =>
    obtain ⟨rfl, hb⟩ := hrel
    have cB := cellH (keepH hb BX.out)
    go_wp2_with fail
    go_ret
    exact ⟨rfl, hb⟩

set_option maxRecDepth 10000 in
set_option maxHeartbeats 4000000 in
theorem placeR_no (b r : Nat) (v : Value) (N : List Nt) (s : ByteArray) (w : World) (h : RL b w r v N) (hi : idxN N s = none) : Calls Tryd.prog 49 #[.pointer (some ⟨r, 0, none⟩), .string s] w fun e w' => e = .returned (.int .i64 (-1)) ∧ Below w.heap.size w w' := by
  obtain ⟨A, c, hv, hc1, hc2, hrow⟩ := Own.rows (fun x _ => encN_len x) h.own
  have BX := Lib.hid h.box
  subst hv
  have cB := cellH BX
  have HR := Lib.hid hrow
  have HNE := Lib.hid (idxN_ne hi)
  have hn2 := h.len
  clear h hrow hi
  go_enter Tryd.func49, Tryd.ntmps49
  go_wp2_with fail
  go_loopw [5] (fun i wr => ∃ k : Nat, k ≤ N.length ∧ i = .int .i64 k ∧ Below w.heap.size w wr) (fun i _ => N.length - (intOf i).toNat)
  case atStart => exact ⟨0, Nat.zero_le _, rfl, Below.refl _ _⟩
  case round =>
    obtain ⟨k, hk, rfl, hb⟩ := hrel
    have cB := cellH (keepH hb BX.out)
    by_cases hlt : k < N.length
    · have m1 : (k : Int) < (N.length : Int) := by omega
      obtain ⟨x, hx⟩ : ∃ x, N[k]? = some x := ⟨N[k], List.getElem?_eq_getElem hlt⟩
      obtain ⟨g, off, rfl, _, hc⟩ := HR.out.below hb (Nat.le_refl _) k x hx
      have j0 : wr.cell? ⟨g, off + k * 2, none⟩ = some (.string x.1) := hc 0 _ rfl
      have hne := HNE.out x (List.mem_of_getElem? hx)
      have e1 : (x.1.toList == s.toList) = false := by rw [beq_eq_false_iff_ne]; intro h; rw [ByteArray.toList_eq, ByteArray.toList_eq] at h; exact hne (ByteArray.ext (Array.ext' h))
      clear hx hc
      go_wp2_with fail
      go_roundw
      case rel => exact ⟨k + 1, by omega, by go_num, hb⟩
      case measure => simp [intOf]; omega
    · have m1 : ¬ (k : Int) < (N.length : Int) := by omega
      go_wp2_with fail
      go_ret
      exact ⟨rfl, hb⟩

set_option maxRecDepth 10000 in
set_option maxHeartbeats 4000000 in
theorem refusesR_any (b r : Nat) (v : Value) (N : List Nt) (s : ByteArray) (x : Int) (w : World) (h : RL b w r v N) (hi : idxN N s = none) (hn : nameB s = true) : Calls Tryd.prog 44 #[.pointer (some ⟨r, 0, none⟩), .string s, .int .i64 x] w fun e w' => e = .returned (.int .i64 (if N.length < 200 then 0 else 113)) ∧ Below w.heap.size w w' := by
  obtain ⟨A, c, hv, hc1, hc2, _⟩ := Own.rows (fun x _ => encN_len x) h.own
  have HRL := Lib.hid h
  have BX := Lib.hid h.box
  subst hv
  have cB := cellH BX
  have HI := Lib.hid hi
  have HN := Lib.hid hn
  clear h hi hn
  go_enter Tryd.func44, Tryd.ntmps44
  go_wp2_with fail
  refine (nameR_any s _ HN.out).mono ?_
  rintro e w1 ⟨rfl, hb1⟩
  go_wp2_with fail
  refine (underR_any b r _ N s _ (HRL.out.below hb1)).mono ?_
  rintro e w2 ⟨rfl, hb2⟩
  have hw2 : Below w.heap.size w w2 := stepH hb1 hb2
  go_wp2_with fail
  refine (placeR_no b r _ N s _ (HRL.out.below hw2) HI.out).mono ?_
  rintro e w3 ⟨rfl, hb3⟩
  have hw3 : Below w.heap.size w w3 := stepH hw2 hb3
  have cB := cellH (keepH hw3 BX.out)
  by_cases hlt : N.length < 200
  · have m1 : ¬ (200 : Int) ≤ (N.length : Int) := by omega
    go_wp2_with fail
    go_ret
    exact ⟨rfl, hw3⟩
  · have m1 : (200 : Int) ≤ (N.length : Int) := by omega
    go_wp2_with fail
    go_ret
    exact ⟨rfl, hw3⟩

set_option maxRecDepth 10000 in
set_option maxHeartbeats 4000000 in
theorem noteR_full (b r : Nat) (v : Value) (N : List Nt) (s : ByteArray) (x : Int) (w : World) (h : RL b w r v N) (hi : idxN N s = none) (hn : nameB s = true) (hl : ¬ N.length < 200) : Calls Tryd.prog 27 #[.pointer (some ⟨r, 0, none⟩), .string s, .int .i64 x] w fun e w' => e = .returned (.int .i64 113) ∧ Below w.heap.size w w' := by
  have HC := Lib.hid (refusesR_any b r v N s 112 w h hi hn)
  have HL := Lib.hid hl
  clear h hi hn hl
  go_enter Tryd.func27, Tryd.ntmps27
  go_wp2_with fail
  have HC := HC.out
  rw [if_neg HL.out] at HC
  refine HC.mono ?_
  rintro e w1 ⟨rfl, hb1⟩
  go_wp2_with fail
  go_ret
  exact ⟨rfl, hb1⟩

set_option maxRecDepth 10000 in
set_option maxHeartbeats 4000000 in
theorem noteR_ok (b r : Nat) (v : Value) (N : List Nt) (s : ByteArray) (x : Int) (w : World) (h : RL b w r v N) (hi : idxN N s = none) (hn : nameB s = true) (hl : N.length < 200) (hb : b ≤ w.heap.size) : Calls Tryd.prog 27 #[.pointer (some ⟨r, 0, none⟩), .string s, .int .i64 x] w fun e w' => e = .returned (.int .i64 0) ∧ ∃ v', RL b w' r v' (N ++ [(s, x)]) ∧ LKeep [] r r r v w v' w' := by
  obtain ⟨inf0, hinf, jz0, jz1, jz2⟩ := info_parts infoNt
  obtain ⟨A, c, hv, hc1, hc2, _⟩ := Own.rows (fun x _ => encN_len x) h.own
  have HC := Lib.hid (refusesR_any b r v N s 112 w h hi hn)
  have HRL := Lib.hid h
  have HL := Lib.hid hl
  subst hv
  clear h hi hn
  go_enter Tryd.func27, Tryd.ntmps27
  go_wp2_with fail
  have HC := HC.out
  rw [if_pos HL.out] at HC
  refine HC.mono ?_
  rintro e w1 ⟨rfl, hb1⟩
  have HR1 := Lib.hid (HRL.out.below hb1)
  have HB1 := Lib.hid hb1
  have BX1 := Lib.hid HR1.out.box
  have cB := cellH BX1
  have hlr := lt_of_H BX1
  have hne : Hid (∀ k, (Value.slice A N.length c).ownBlock = some k → k ≠ r) := fun k hk e => HR1.out.ne (by rw [hk, e])
  have HO := Lib.hid HR1.out.own
  have z0 := hb1.size
  clear hb1
  go_wp2_with (at_builtin; go_must (refine wpList_append_lies _ rfl (.tmp 17) (.tmp 21) 28 rfl b 39 inf0 _ 2 24 Tryd.underlying28 hinf jz0 jz1 jz2 rfl (by decide) _ N.length _ rfl (own_below HO.out (by (repeat' (first | with_reducible exact Below.refl _ _ | with_reducible assumption | with_reducible refine Below.drew ?_ | with_reducible refine below_drewN ?_ _ | with_reducible refine Below.setCell ?_ ?_ _ | with_reducible refine Below.alloc ?_ ?_ _ | omega | (simp; done) | (simp; omega))))) ⟨w1.heap.size, 0, none⟩ 1 1 [.string s, .int .i64 x] rfl rfl (World.news_of_block (cs := #[.string s, .int .i64 x]) (blk_new rfl)) (by simp [Value.oneCell']) (by decide) (by unfold maxLen; omega) (by omega) (by simp; omega) _ rfl ?_); intro g9 c9 w2 hown9 hgrow9 hat9 hlt9; have z2 : w1.heap.size < w2.heap.size := Nat.lt_of_lt_of_le (by simp) hgrow9.size; have BX2 : Hid (w2.heap[r]? = some (.cells #[.slice A N.length c, .slice none 0 0, .bool false] 69 (0, 0))) := (hgrow9.block r (by simp; omega) (fun e => hne.out r e.symm rfl)).trans (blk_old BX1.out); have cB2 := cellH BX2; have fB2 := frozH BX2; have hlL2 := lt_of_H BX2)
  go_ret
  have hg9 : g9 ≠ r := fun e => by
    rcases hat9 with h | h
    · exact hne.out g9 h e
    · simp at h; omega
  refine ⟨rfl, .slice (some ⟨g9, 0, none⟩) (N.length + 1) c9, ?_, ?_⟩
  · refine ⟨?_, ?_, HR1.out.hr, fun e => hg9 (by simpa [Value.ownBlock] using e), by rw [List.length_append, List.length_singleton]; have := HL.out; omega⟩
    · have h := BX2.out
      simp [World.setCell, Array.getElem?_modify, h]
    · have h := Own.snoc (enc := encN) (x := (s, x)) hown9 rfl rfl
      rw [show N.length + 1 = (N ++ [(s, x)]).length by simp] at h ⊢
      exact own_setOther h (fun k e => by simp [Value.ownBlock] at e; omega)
  · have hz3 : (w2.setCell ⟨r, 0, none⟩ (.slice (some ⟨g9, 0, none⟩) (N.length + 1) c9)).heap.size = w2.heap.size := by simp [World.setCell]
    have hs2 : Below 0 w2 (w2.setCell ⟨r, 0, none⟩ (.slice (some ⟨g9, 0, none⟩) (N.length + 1) c9)) := (Below.refl 0 w2).setCell (Nat.zero_le _) _
    have B1 := HB1.out
    refine ⟨hs2.os.trans (hgrow9.os.trans B1.os), hs2.tape.trans (hgrow9.tape.trans B1.tape), hs2.output.trans (hgrow9.output.trans B1.output), by rw [hz3]; omega, fun k hk h1 h2 h3 h4 h5 => ?_, fun k e => ?_⟩
    · rw [Below.heap_setCell _ _ _ _ h1, hgrow9.block k (by simp; omega) (fun e => h4 e.symm)]
      exact (Below.heap_alloc _ _ _ (by omega)).trans (B1.block k hk)
    · simp [Value.ownBlock] at e
      subst e
      rcases hat9 with h | h
      · exact .inl h
      · simp at h; exact .inr (by omega)

end Go.Proofs.YtodlbfekoohpoaaDoor
