/- Notes: Clip, Clone, Notes, the law's SameNotes: walks. -/
import Derived.Test.YtodlbfekoohpoaaDoorBootE
import Derived.Deep.RegionHeld3
namespace Go.Proofs.YtodlbfekoohpoaaDoor
open Go.RowKit

theorem rowFlat {α : Type} {enc : α → List Value} {size : Nat} (hs : ∀ x, (enc x).length = size) (hsz : 0 < size) {w : World} {B : Nat} {A : Option Addr} {l : List α} (h : RowAt enc size w B A l) : ∀ ad, A = some ad → ∀ j u, (l.flatMap enc)[j]? = some u → w.cell? (ad.add j) = some u := by
  intro ad ha j u hj
  have hlt : j < l.length * size := by rw [← flat_len (fun x _ => hs x)]; exact (List.getElem?_eq_some_iff.1 hj).1
  have hdiv : j / size < l.length := Nat.div_lt_of_lt_mul (by rw [Nat.mul_comm]; exact hlt)
  obtain ⟨b, hb⟩ : ∃ b, l[j / size]? = some b := ⟨l[j / size], List.getElem?_eq_getElem hdiv⟩
  obtain ⟨g, off, e, _, hc⟩ := h (j / size) b hb
  rw [e] at ha
  cases ha
  have hm : j % size < (enc b).length := by rw [hs]; exact Nat.mod_lt _ hsz
  have hf := flat_at (l := l) (enc := enc) (size := size) (fun x _ => hs x) hb (List.getElem?_eq_getElem hm)
  have hjd : j / size * size + j % size = j := Nat.div_add_mod' j size
  rw [hjd, hj] at hf
  have := hc (j % size) _ (List.getElem?_eq_getElem hm)
  rw [← hf, show off + j / size * size + j % size = off + j by omega] at this
  rw [Go.WideShapes.add_plain]
  exact this

theorem encN_one (l : List Nt) : ∀ u ∈ l.flatMap encN, u.oneCell' = true := by
  intro u hu
  obtain ⟨b, _, hb⟩ := List.mem_flatMap.1 hu
  simp [encN] at hb
  rcases hb with rfl | rfl <;> rfl
theorem encN_flat (l : List Nt) : (l.flatMap encN).length = l.length * 2 := flat_len (fun x _ => encN_len x)

set_option maxRecDepth 100000 in
set_option maxHeartbeats 4000000 in
theorem cloneN_any (s : List Nt) (A : Option Addr) (c : Nat) (w : World) (hl : RowAt encN 2 w w.heap.size A s) (hm : s.length ≤ 1000000) :
    Calls Tryd.prog 34 #[.slice A s.length c] w fun e w' => (∃ v, e = .returned v ∧ Own encN 2 39 w.heap.size w' v s) ∧ Below w.heap.size w w' := by
  obtain ⟨inf0, hi, jz0, jz1, jz2⟩ := info_parts infoNt
  have HL := Lib.hid hl
  clear hl
  cases A with
  | none =>
    obtain rfl : s = [] := by
      cases s with
      | nil => rfl
      | cons b r => obtain ⟨_, _, e, _⟩ := HL.out 0 b rfl; cases e
    have hsn := fun (w : World) => Lib.run_eql_slice_nil (P := Tryd.prog) w 28 39 none 0 c 0 0 Tryd.underlying28
    go_enter Tryd.func34, Tryd.ntmps34
    go_wp2_with fail
    go_ret
    exact ⟨⟨_, rfl, Own.nil⟩, by (repeat' (first | with_reducible exact Below.refl _ _ | with_reducible assumption | with_reducible refine Below.drew ?_ | with_reducible refine below_drewN ?_ _ | with_reducible refine Below.setCell ?_ ?_ _ | with_reducible refine Below.alloc ?_ ?_ _ | omega | (simp; done) | (simp; omega)))⟩
  | some a =>
    have hsn := fun (w : World) => Lib.run_eql_slice_nil (P := Tryd.prog) w 28 39 (some a) s.length c 0 0 Tryd.underlying28
    have HN := Lib.hid (encN_flat s)
    have H1 := Lib.hid (encN_one s)
    have hrow : Hid (∀ j u, (s.flatMap encN)[j]? = some u → w.cell? (a.add j) = some u) := Lib.hid (rowFlat encN_len (by decide) HL.out a rfl)
    have e0 : Hid ((w.alloc (.cells #[] 39)).ownsRow w.heap.size 39 2 (.slice (some ⟨w.heap.size, 0, none⟩) 0 0) 0 []) :=
      ⟨rfl, .inr ⟨w.heap.size, 0, #[], rfl, Nat.le_refl _, blk_new rfl, Nat.le_refl _, by simp, rfl, rfl⟩⟩
    go_enter Tryd.func34, Tryd.ntmps34
    go_wp2_with (at_builtin; go_must (refine wpList_append_own _ rfl (.tmp 5) (.tmp 6) 28 rfl w.heap.size 39 inf0 _ 2 24 Tryd.underlying28 hi jz0 jz1 jz2 rfl (by decide) _ 0 [] rfl e0.out a s.length c (s.flatMap encN) rfl HN.out (fun j u h => cell_alloc (hrow.out j u h)) H1.out (by unfold maxLen; omega) (by omega) (by simp) ?_); intro v' w9 hown9 hgrow9 _)
    go_ret
    refine ⟨⟨_, rfl, ?_⟩, ?_⟩
    · unfold Own
      simpa using hown9
    · exact (Below.alloc (Below.refl _ _) (Nat.le_refl _) _).grown hgrow9 (by simp) (fun k e => by cases e; exact Nat.le_refl _)

set_option maxRecDepth 10000 in
set_option maxHeartbeats 4000000 in
theorem clipN_any (A : Option Addr) (n c : Nat) (w : World) (h1 : n ≤ c) (h2 : n ≤ 1000000) (h0 : A = none → n = 0 ∧ c = 0) :
    Calls Tryd.prog 33 #[.slice A n c] w fun e w' => e = .returned (.slice A n n) ∧ Below w.heap.size w w' := by
  cases A with
  | none =>
    obtain ⟨rfl, rfl⟩ := h0 rfl
    go_enter Tryd.func33, Tryd.ntmps33
    go_wp2_with fail
    go_ret
    exact ⟨rfl, by (repeat' (first | with_reducible exact Below.refl _ _ | with_reducible assumption | with_reducible refine Below.drew ?_ | with_reducible refine below_drewN ?_ _ | with_reducible refine Below.setCell ?_ ?_ _ | with_reducible refine Below.alloc ?_ ?_ _ | omega | (simp; done) | (simp; omega)))⟩
  | some a =>
    have z := Tryd.sizeOf39
    go_enter Tryd.func33, Tryd.ntmps33
    go_wp2_with fail
    go_ret
    exact ⟨rfl, by (repeat' (first | with_reducible exact Below.refl _ _ | with_reducible assumption | with_reducible refine Below.drew ?_ | with_reducible refine below_drewN ?_ _ | with_reducible refine Below.setCell ?_ ?_ _ | with_reducible refine Below.alloc ?_ ?_ _ | omega | (simp; done) | (simp; omega)))⟩

set_option maxRecDepth 10000 in
set_option maxHeartbeats 4000000 in
theorem notes_any (b L P U um : Nat) (v : Value) (N : List Nt) (B : List ByteArray) (cl : Bool) (w : World) (hl : Led b w L P U v N B cl um) :
    Calls Tryd.prog 9 #[.pointer (some ⟨L, 0, none⟩)] w fun e w' => (∃ A, e = .returned (.slice A N.length N.length) ∧ RowAt encN 2 w' w'.heap.size A N) ∧ Below w.heap.size w w' := by
  obtain ⟨A, c, hv, _, _, hrow⟩ := Own.rows (fun x _ => encN_len x) hl.own
  have BX := Lib.hid hl.box
  have HN := hl.len
  subst hv
  have cB := cellH BX
  have HR := Lib.hid hrow
  clear hl hrow
  go_enter Tryd.func9, Tryd.ntmps9
  go_wp2_with fail
  refine (cloneN_any N A c _ HR.out (by omega)).mono ?_
  rintro e w1 ⟨⟨v1, rfl, ho⟩, hb1⟩
  obtain ⟨A1, c1, hv1, hc1, hcc, hrow1⟩ := Own.rows (fun x _ => encN_len x) ho
  subst hv1
  have HR1 := Lib.hid hrow1
  have hn0 : A1 = none → N.length = 0 ∧ c1 = 0 := fun e => by
    rcases ho.2 with ⟨h, _⟩ | ⟨g, cap, cur, h, _⟩
    · injection h with _ h2 h3; exact ⟨h2, h3⟩
    · rw [e] at h; injection h with h; cases h
  clear ho hrow1
  go_wp2_with fail
  refine (clipN_any A1 N.length c1 _ (by omega) (by omega) hn0).mono ?_
  rintro e w2 ⟨rfl, hb2⟩
  go_wp2_with fail
  go_ret
  exact ⟨⟨A1, rfl, (HR1.out.below hb2 (Nat.le_refl _)).more hb2.size⟩, stepH hb1 hb2⟩

set_option maxRecDepth 10000 in
set_option maxHeartbeats 4000000 in
theorem sameNotes_yes (l : List Nt) (n : Nat) (A B : Option Addr) (c d : Nat) (w : World) (hn : l.length = n) (hl : RowAt encN 2 w w.heap.size A l) (hm : RowAt encN 2 w w.heap.size B l) (h1 : n ≤ 1000000) :
    Calls Tryd.prog 32 #[.slice A n c, .slice B n d] w fun e w' => e = .returned (.bool true) ∧ Below w.heap.size w w' := by
  have HL := Lib.hid hl
  have HM := Lib.hid hm
  have HN := Lib.hid hn
  clear hl hm hn
  go_enter Tryd.func32, Tryd.ntmps32
  go_wp2_with fail
  go_loopw [5] (fun i wr => ∃ k : Nat, k ≤ n ∧ i = .int .i64 k ∧ Below w.heap.size w wr) (fun i _ => n - (intOf i).toNat)
  case atStart => exact ⟨0, Nat.zero_le _, rfl, Below.refl _ _⟩
  case round =>
    obtain ⟨k, hk, rfl, hb⟩ := hrel
    have z0 := hb.size
    by_cases hlt : k < n
    · obtain ⟨p, hp⟩ : ∃ p, l[k]? = some p := ⟨l[k]'(by rw [HN.out]; exact hlt), List.getElem?_eq_getElem _⟩
      obtain ⟨g, off, rfl, hg, hc⟩ := (HL.out.below hb (Nat.le_refl _)) k p hp
      obtain ⟨g2, off2, rfl, hg2, hd⟩ := (HM.out.below hb (Nat.le_refl _)) k p hp
      have j0 : wr.cell? ⟨g, off + k * 2, none⟩ = some (.string p.1) := hc 0 _ rfl
      have j1 : wr.cell? ⟨g, off + k * 2 + 1, none⟩ = some (.int .i64 p.2) := hc 1 _ rfl
      have i0 : wr.cell? ⟨g2, off2 + k * 2, none⟩ = some (.string p.1) := hd 0 _ rfl
      have i1 : wr.cell? ⟨g2, off2 + k * 2 + 1, none⟩ = some (.int .i64 p.2) := hd 1 _ rfl
      have hlt2 : (k : Int) < (n : Int) := by omega
      have b2 : (p.2 == p.2) = true := beq_self_eq_true _
      clear hp hc hd
      go_wp2_with fail
      go_region_held3 (fun w' => w'.cell? ⟨g, off + k * 2, none⟩ = some (.string p.1) ∧ w'.cell? ⟨g, off + k * 2 + 1, none⟩ = some (.int .i64 p.2) ∧ w'.cell? ⟨g2, off2 + k * 2, none⟩ = some (.string p.1) ∧ w'.cell? ⟨g2, off2 + k * 2 + 1, none⟩ = some (.int .i64 p.2)) (first | with_reducible exact ⟨j0, j1, i0, i1⟩ | go_keep)
        (fail)
      go_wp2_with fail
      go_roundw
      case rel => exact ⟨k + 1, by omega, by go_num, by (repeat' (first | with_reducible exact Below.refl _ _ | with_reducible assumption | with_reducible refine Below.drew ?_ | with_reducible refine below_drewN ?_ _ | with_reducible refine Below.setCell ?_ ?_ _ | with_reducible refine Below.alloc ?_ ?_ _ | omega | (simp; done) | (simp; omega)))⟩
      case measure => simp [intOf]; omega
    · go_wp2_with fail
      go_ret
      exact ⟨rfl, hb⟩

end Go.Proofs.YtodlbfekoohpoaaDoor
