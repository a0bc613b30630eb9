/- A step that is worked out of others, asked for: get's walk, by induction on the step. -/
import Derived.Test.YtodlbfekoohpoaaDoorBootR
namespace Go.Proofs.YtodlbfekoohpoaaDoor
open Go.RowKit

theorem box_two {b L P U um : Nat} {v : Value} {N : List Nt} {B : List ByteArray} {cl : Bool} {w : World} (h : Led b w L P U v N B cl um) (o1 o2 : Obj) : Box L P U v ((w.alloc o1).alloc o2) w.heap.size o1 ∧ Box L P U v ((w.alloc o1).alloc o2) (w.heap.size + 1) o2 := by
  have hb1 : Below w.heap.size w (w.alloc o1) := by (repeat' (first | with_reducible exact Below.refl _ _ | with_reducible assumption | with_reducible refine Below.drew ?_ | with_reducible refine below_drewN ?_ _ | with_reducible refine Below.setCell ?_ ?_ _ | with_reducible refine Below.alloc ?_ ?_ _ | omega | (simp; done) | (simp; omega)))
  have e : (w.alloc o1).heap.size = w.heap.size + 1 := Array.size_push _
  refine ⟨(Box.new h o1).below (by (repeat' (first | with_reducible exact Below.refl _ _ | with_reducible assumption | with_reducible refine Below.drew ?_ | with_reducible refine below_drewN ?_ _ | with_reducible refine Below.setCell ?_ ?_ _ | with_reducible refine Below.alloc ?_ ?_ _ | omega | (simp; done) | (simp; omega)))), ?_⟩
  have := Box.new (h.below hb1) o2
  rw [e] at this
  exact this

set_option maxRecDepth 10000 in
set_option maxHeartbeats 8000000 in
theorem get_any (S : List Sm) (hM : Mild S) (hF : ∀ s ∈ S, ∀ f ∈ s.2, -9223372036854775808 ≤ f ∧ f ≤ 9223372036854775807) (hlen : S.length ≤ 60) (A : Option Addr) (cS b : Nat) (E : Nat → Addr) (m : Int) (L P U wB rB : Nat) : ∀ i, GetAt S A cS b E m L P U wB rB i := by
  intro i
  induction i using Nat.strongRecOn with
  | ind i ih =>
  intro x w v I R um B hx hi hg hr hB hu
  have hnm := nameS_ok (i := i) (by omega)
  have hsm : ∀ j ∈ I, j < 61 := fun j hj => by have := hg.gd.lt j hj; omega
  obtain ⟨w1, h1⟩ : ∃ w1, (w.alloc (.cells #[.pointer (some ⟨wB, 0, none⟩)] 45)).alloc (.cells #[.int .i64 x] 3) = w1 := ⟨_, rfl⟩
  have hb1 : Below w.heap.size w w1 := by rw [← h1]; (repeat' (first | with_reducible exact Below.refl _ _ | with_reducible assumption | with_reducible refine Below.drew ?_ | with_reducible refine below_drewN ?_ _ | with_reducible refine Below.setCell ?_ ?_ _ | with_reducible refine Below.alloc ?_ ?_ _ | omega | (simp; done) | (simp; omega)))
  have HB1 := Lib.hid hb1
  have HG1 := Lib.hid (hg.below hb1)
  have hbx : Box L P U v w1 w.heap.size (.cells #[.pointer (some ⟨wB, 0, none⟩)] 45 (0, 0)) ∧ Box L P U v w1 (w.heap.size + 1) (.cells #[.int .i64 x] 3 (0, 0)) := by rw [← h1]; exact box_two hg.st.led _ _
  have HP1 := Lib.hid hbx.1
  have HI1 := Lib.hid hbx.2
  have HNE : Hid (w.heap.size ≠ rB ∧ w.heap.size + 1 ≠ rB) := by have := hg.rb.1.lt; show _ ∧ _; omega
  have k0 : w1.cell? ⟨w.heap.size, 0, none⟩ = some (.pointer (some ⟨wB, 0, none⟩)) := hbx.1.cell 0
  have k1 : w1.cell? ⟨wB, 1, none⟩ = some (.pointer (some ⟨L, 0, none⟩)) := HG1.out.wb.cell 1
  have k2 : w1.cell? ⟨w.heap.size + 1, 0, none⟩ = some (.int .i64 x) := hbx.2.cell 0
  have hmf : ∀ (fn : Fn) (first cap : Array Value) (w : World), (Instr.makeFunc fn first cap).run Tryd.prog w = .ok (.func fn first cap) w := fun _ _ _ _ => rfl
  have HXI := Lib.hid hx
  have x0 : 0 ≤ x := by omega
  have x1 : x.toNat = i := by omega
  have HNM := nameL_any i
  rw [← hx] at HNM
  by_cases hin : i ∈ I
  · obtain ⟨p, hp⟩ := atI_mem hin
    have HC := Lib.hid (fun W (hW : Below w1.heap.size w1 W) fv => (HG1.out.st.below hW).onceHas (nameS i) fv p (nameS i, valS S i) hnm.2 ((idx_nts S hsm (by omega)).trans hp) (by unfold ntsS; rw [List.getElem?_map, atI_some hp]; rfl))
    have HN := Lib.hid hin
    clear hg hr hB hbx hx hin hp hsm ih hb1
    go_enter Tryd.func18, Tryd.ntmps18
    go_wp2_with fail
    go_region_held3 (fun w' => w'.cell? ⟨w.heap.size, 0, none⟩ = some (.pointer (some ⟨wB, 0, none⟩)) ∧ w'.cell? ⟨wB, 1, none⟩ = some (.pointer (some ⟨L, 0, none⟩)) ∧ w'.cell? ⟨w.heap.size + 1, 0, none⟩ = some (.int .i64 x)) (first | with_reducible exact ⟨k0, k1, k2⟩ | go_keep)
      (first | (go_at_call 22; refine (HNM _ (by omega)).mono ?_; rintro e w2 ⟨rfl, hb2⟩; have hw2 : Below w1.heap.size w1 w2 := stepH (by (repeat' (first | with_reducible exact Below.refl _ _ | with_reducible assumption | with_reducible refine Below.drew ?_ | with_reducible refine below_drewN ?_ _ | with_reducible refine Below.setCell ?_ ?_ _ | with_reducible refine Below.alloc ?_ ?_ _ | omega | (simp; done) | (simp; omega)))) hb2; replace k0 := cellOf hw2 k0; replace k1 := cellOf hw2 k1; replace k2 := cellOf hw2 k2) | (go_at_call 12; refine (HC.out _ (by (repeat' (first | with_reducible exact Below.refl _ _ | with_reducible assumption | with_reducible refine Below.drew ?_ | with_reducible refine below_drewN ?_ _ | with_reducible refine Below.setCell ?_ ?_ _ | with_reducible refine Below.alloc ?_ ?_ _ | omega | (simp; done) | (simp; omega)))) _).mono ?_; rintro e w3 ⟨rfl, s3, hb3⟩; have hw3 : Below w1.heap.size w1 w3 := stepH (by (repeat' (first | with_reducible exact Below.refl _ _ | with_reducible assumption | with_reducible refine Below.drew ?_ | with_reducible refine below_drewN ?_ _ | with_reducible refine Below.setCell ?_ ?_ _ | with_reducible refine Below.alloc ?_ ?_ _ | omega | (simp; done) | (simp; omega)))) hb3; replace k0 := cellOf hb3 (by first | exact k0 | exact cell_drew k0); replace k1 := cellOf hb3 (by first | exact k1 | exact cell_drew k1); replace k2 := cellOf hb3 (by first | exact k2 | exact cell_drew k2)))
    all_goals (
      go_wp2_with fail
      go_ret
      exact ⟨v, I, R, um, rfl, HG1.out.below hw3, ⟨(LKeep.ofBelow HB1.out).trans (LKeep.ofBelow hw3), fun _ h => h, fun _ h => .inl h, RanTo.refl _ _, Nat.le_refl _⟩, HN.out⟩)
  · have HMAY := Lib.hid (show mayE (nameB (nameS i)) (ntsS S I) B false (nameS i) 0 = none by
      have h1 : idxN (ntsS S I) (nameS i) = none := (idx_nts S hsm (by omega)).trans (by cases e : atI I i with | none => rfl | some p => exact absurd (List.mem_of_getElem? (atI_some e)) hin)
      have h2 := hB i (Nat.le_refl _)
      have h3 := hg.gd.len
      have h4 := ntsS_len S I
      simp [mayE, h1, h2, hnm.1, roomE, h4]
      omega)
    have HC := Lib.hid (fun W2 (hW : Below w1.heap.size w1 W2) => (HG1.out.st.below hW).onceOk (X := [rB]) (nameS i) 42 #[.pointer (some ⟨w.heap.size, 0, none⟩), .pointer (some ⟨w.heap.size + 1, 0, none⟩)]
      (fun r v2 N2 cl2 um2 W => r = valS S i ∧ ∃ J R2, N2 = ntsS S J ∧ Gd S J ∧ R2.length = R.length ∧ (∀ j ∈ I, j ∈ J) ∧ (∀ j ∈ J, j ∈ I ∨ j < i) ∧ (∀ s, S[i]? = some s → ∀ f ∈ s.2.take 4, ∀ t, toOf i f = some t → t ∈ J) ∧ RanTo I J (R.set i 1) R2 ∧ um2 + I.length ≤ um + 1 + J.length ∧ Box L P U v2 W rB (.cells (R2.map (Value.int .i64)).toArray 3 (0, 0))) hnm.2 (by have := hg.gd.len; omega) HMAY.out call_get
      (fun W hS hk => (get_in S hM hF hlen A cS b E m L P U wB rB i hi ih x hx w.heap.size (w.heap.size + 1) (um + 1) W v I R (nameS i :: B)
          (((HG1.out.below hW).keep hS (hk.wider (by simp)) (hk.box ((HG1.out.below hW).rb) (by simp)) hg.gd rfl)) hr (fun j hj => by rw [inB_ne (fun e => by have := nameS_inj (by omega) (by omega) e; omega)]; exact hB j (by omega)) (by omega) hin
          (hk.box (HP1.out.below hW) (by simp)) (hk.box (HI1.out.below hW) (by simp)) HNE.out).mono (fun e W' q => by
        obtain ⟨v2, J, R2, um2, he, hq, hk2, q1, q2, q3, q4, q5⟩ := q
        have hni : i ∉ J := fun h => by rcases q2 i h with e | e; exact hin e; omega
        exact ⟨_, v2, _, false, um2, he, hq.st, hk2, ⟨rfl, J, R2, rfl, hq.gd, hq.len.trans hg.len.symm, q1, q2, q3, q4, q5, hq.rb⟩, rfl, (idx_nts S (fun j hj => by have := hq.gd.lt j hj; omega) (by omega)).trans (by cases e : atI J i with | none => rfl | some p => exact absurd (List.mem_of_getElem? (atI_some e)) hni), by rw [ntsS_len]; have := hq.gd.len; omega⟩))
      (fun j hj => by rw [List.mem_singleton.1 hj]; exact ⟨hg.hr, (HG1.out.below hW).rb.1.lt⟩)
      (fun r v2 v3 N2 cl2 um2 W W' h hk => by
        obtain ⟨h0, J, R2, h1, h2, h3, h4, h5, h6, h7, h8, h9⟩ := h
        exact ⟨h0, J, R2, h1, h2, h3, h4, h5, h6, h7, h8, hk.box h9 (by simp)⟩))
    have HN := Lib.hid hin
    have HRL := Lib.hid (hg.len)
    clear hg hr hB hbx hx hin hsm ih hb1 HMAY
    go_enter Tryd.func18, Tryd.ntmps18
    go_wp2_with fail
    go_region_held3 (fun w' => w'.cell? ⟨w.heap.size, 0, none⟩ = some (.pointer (some ⟨wB, 0, none⟩)) ∧ w'.cell? ⟨wB, 1, none⟩ = some (.pointer (some ⟨L, 0, none⟩)) ∧ w'.cell? ⟨w.heap.size + 1, 0, none⟩ = some (.int .i64 x)) (first | with_reducible exact ⟨k0, k1, k2⟩ | go_keep)
      (first | (go_at_call 22; refine (HNM _ (by omega)).mono ?_; rintro e w2 ⟨rfl, hb2⟩; have hw2 : Below w1.heap.size w1 w2 := stepH (by (repeat' (first | with_reducible exact Below.refl _ _ | with_reducible assumption | with_reducible refine Below.drew ?_ | with_reducible refine below_drewN ?_ _ | with_reducible refine Below.setCell ?_ ?_ _ | with_reducible refine Below.alloc ?_ ?_ _ | omega | (simp; done) | (simp; omega)))) hb2; replace k0 := cellOf hw2 k0; replace k1 := cellOf hw2 k1; replace k2 := cellOf hw2 k2) | (go_at_call 12; refine (HC.out _ (by (repeat' (first | with_reducible exact Below.refl _ _ | with_reducible assumption | with_reducible refine Below.drew ?_ | with_reducible refine below_drewN ?_ _ | with_reducible refine Below.setCell ?_ ?_ _ | with_reducible refine Below.alloc ?_ ?_ _ | omega | (simp; done) | (simp; omega))))).mono ?_; rintro e w3 ⟨r3, v3, N3, um3, rfl, s3, hk3, rfl, J3, R3, rfl, hq3, hz3, ho3, hp3, hd3, hr3, hu3, hx3⟩; have hk9 : LKeep [rB] L P U v w1 v3 w3 := (LKeep.ofBelow (show Below w1.heap.size w1 _ by (repeat' (first | with_reducible exact Below.refl _ _ | with_reducible assumption | with_reducible refine Below.drew ?_ | with_reducible refine below_drewN ?_ _ | with_reducible refine Below.setCell ?_ ?_ _ | with_reducible refine Below.alloc ?_ ?_ _ | omega | (simp; done) | (simp; omega))))).trans hk3; clear k0 k1 k2; have k0 : w3.cell? ⟨w.heap.size, 0, none⟩ = some (.pointer (some ⟨wB, 0, none⟩)) := (hk9.box HP1.out (by simp [HNE.out])).cell 0; have k1 : w3.cell? ⟨wB, 1, none⟩ = some (.pointer (some ⟨L, 0, none⟩)) := (hk9.box HG1.out.wb (by simp [HG1.out.ne])).cell 1; have k2 : w3.cell? ⟨w.heap.size + 1, 0, none⟩ = some (.int .i64 x) := (hk9.box HI1.out (by simp [HNE.out])).cell 0))
    all_goals (
      have HS3 := Lib.hid s3
      have HK3 := Lib.hid hk9
      have HQ := Lib.hid (And.intro hq3 (And.intro hz3 (And.intro ho3 (And.intro hp3 (And.intro hd3 (And.intro hr3 hx3))))))
      clear s3 hk9 hk3 hq3 hz3 ho3 hp3 hd3 hr3 hx3 k0 k1 k2
      go_wp2_with fail
      go_ret
      obtain ⟨q1, q2, q3, q4, q5, q6, q7⟩ := HQ.out
      have hni : i ∉ J3 := fun h => by rcases q4 i h with e | e; exact HN.out e; omega
      have hg3 : Gd S (J3 ++ [i]) := q1.snoc hi hni q5
      have g3 := HG1.out.keep (J := J3 ++ [i]) (by rw [ntsS_snoc]; exact HS3.out) HK3.out q7 hg3 q2
      exact ⟨v3, J3 ++ [i], R3, um3, rfl, g3, ⟨(LKeep.ofBelow HB1.out).trans HK3.out, fun j hj => List.mem_append.2 (.inl (q3 j hj)), fun j hj => by (rcases List.mem_append.1 hj with e | e; (rcases q4 j e with e2 | e2; exact .inl e2; exact .inr (by omega)); exact .inr (by rw [List.mem_singleton.1 e]; exact Nat.le_refl _)), q6.own (by rw [HRL.out]; exact hi) hni q3, by rw [List.length_append, List.length_singleton]; omega⟩, List.mem_append.2 (.inr (List.mem_singleton.2 rfl))⟩)

end Go.Proofs.YtodlbfekoohpoaaDoor
