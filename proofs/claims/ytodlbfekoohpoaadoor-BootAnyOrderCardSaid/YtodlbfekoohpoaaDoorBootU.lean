/- Did each work run once, does each note stand behind those that it leans on: behind's walk. -/
import Derived.Test.YtodlbfekoohpoaaDoorBootT
namespace Go.Proofs.YtodlbfekoohpoaaDoor
open Go.RowKit

theorem TS.place {S : List Sm} {A : Option Addr} {cS b : Nat} {E : Nat → Addr} {m : Int} {L P U wB rB : Nat} {w : World} {v : Value} {I : List Nat} {R : List Int} {um : Nat} (h : TS S A cS b E m L P U wB rB w v I R um) (hlen : S.length ≤ 60) {i p : Nat} (hp : I[p]? = some i) :
    Calls Tryd.prog 24 #[.pointer (some ⟨L, 0, none⟩), .string (nameS i)] w fun e w' => e = .returned (.tuple #[.int .i64 p, .bool true]) ∧ Below w.heap.size w w' := by
  have hI : ∀ j ∈ I, j < 61 := fun j hj => by have := h.gs.gd.lt j hj; omega
  have hi := hI i (List.mem_of_getElem? hp)
  have := place_any b L P U um v (ntsS S I) [] false (nameS i) w h.gs.st.led (nameS_ok hi).2
  rw [idx_nts S hI hi, atI_nodup h.gs.gd.nodup hp] at this
  exact this

set_option maxRecDepth 10000 in
set_option maxHeartbeats 8000000 in
theorem behind_any (S : List Sm) (hF : ∀ s ∈ S, ∀ f ∈ s.2, -9223372036854775808 ≤ f ∧ f ≤ 9223372036854775807) (hlen : S.length ≤ 60) (A : Option Addr) (cS b : Nat) (E : Nat → Addr) (m : Int) (L P U wB rB : Nat) (w : World) (v : Value) (I : List Nat) (R : List Int) (um : Nat) (h : TS S A cS b E m L P U wB rB w v I R um) (hall : ∀ i, i < S.length → i ∈ I) :
    Calls Tryd.prog 19 #[.pointer (some ⟨wB, 0, none⟩)] w fun e w' => e = .returned (.bool true) ∧ Below w.heap.size w w' := by
  have HT := Lib.hid h
  have HA := Lib.hid hall
  have HF := Lib.hid hF
  clear h hall hF
  go_enter Tryd.func19, Tryd.ntmps19
  go_wp2_with fail
  go_loopw [3] (fun kv wr => ∃ i : Nat, i ≤ S.length ∧ kv = .int .i64 i ∧ Below w.heap.size w wr) (fun kv _ => S.length - (intOf kv).toNat)
  case atStart => exact ⟨0, Nat.zero_le _, rfl, Below.refl _ _⟩
  case round =>
    obtain ⟨i, hi, rfl, hb⟩ := hrel
    obtain ⟨w0, rfl⟩ : ∃ w0, w0 = wr := ⟨wr, rfl⟩
    have T0 := Lib.hid (HT.out.below hb)
    have k0 : w0.cell? ⟨wB, 0, none⟩ = some (.slice A S.length cS) := T0.out.gs.wb.cell 0
    by_cases hlt : i < S.length
    · have k1 : w0.cell? ⟨wB, 1, none⟩ = some (.pointer (some ⟨L, 0, none⟩)) := T0.out.gs.wb.cell 1
      have k2 : w0.cell? ⟨wB, 2, none⟩ = some (.slice (some ⟨rB, 0, none⟩) S.length S.length) := T0.out.gs.wb.cell 2
      have hR := T0.out.ran i hlt
      rw [if_pos (HA.out i hlt)] at hR
      have k3 : w0.cell? ⟨rB, i, none⟩ = some (.int .i64 1) := by rw [T0.out.gs.rb.cell i]; simp [hR]
      obtain ⟨p, hp⟩ := List.getElem?_of_mem (HA.out i hlt)
      have HPI := Lib.hid hp
      have HPL := Lib.hid (fun W (hW : Below w0.heap.size w0 W) => (T0.out.below hW).place hlen hp)
      have l1 : (i : Int) < (S.length : Int) := by omega
      have hplt : p < I.length := (List.getElem?_eq_some_iff.1 hp).1
      have hIlen := T0.out.gs.gd.len
      have hp60 : (p : Int) ≤ 60 := by omega
      clear hR hp
      go_wp2_with fail
      go_region_held3 (fun w' => w'.cell? ⟨wB, 1, none⟩ = some (.pointer (some ⟨L, 0, none⟩))) (first | with_reducible exact k1 | go_keep)
        (first | (go_at_call 22; refine (nameL_any i _ (by omega)).mono ?_; rintro e w2 ⟨rfl, hb2⟩; have hw2 : Below w0.heap.size w0 w2 := stepH (by (repeat' (first | with_reducible exact Below.refl _ _ | with_reducible assumption | with_reducible refine Below.drew ?_ | with_reducible refine below_drewN ?_ _ | with_reducible refine Below.setCell ?_ ?_ _ | with_reducible refine Below.alloc ?_ ?_ _ | omega | (simp; done) | (simp; omega)))) hb2; replace k1 := cellOf hw2 k1) | (go_at_call 24; refine (HPL.out _ (by (repeat' (first | with_reducible exact Below.refl _ _ | with_reducible assumption | with_reducible refine Below.drew ?_ | with_reducible refine below_drewN ?_ _ | with_reducible refine Below.setCell ?_ ?_ _ | with_reducible refine Below.alloc ?_ ?_ _ | omega | (simp; done) | (simp; omega))))).mono ?_; rintro e w3 ⟨rfl, hb3⟩; have hw3 : Below w0.heap.size w0 w3 := stepH (by (repeat' (first | with_reducible exact Below.refl _ _ | with_reducible assumption | with_reducible refine Below.drew ?_ | with_reducible refine below_drewN ?_ _ | with_reducible refine Below.setCell ?_ ?_ _ | with_reducible refine Below.alloc ?_ ?_ _ | omega | (simp; done) | (simp; omega)))) hb3; replace k1 := cellOf hb3 (by first | exact k1 | exact cell_drew k1)))
      all_goals (
        have HW3 := Lib.hid hw3
        clear k0 k1
        have k2 := cellOf HW3.out k2
        have k3 := cellOf HW3.out k3
        have T3 := Lib.hid (T0.out.below HW3.out)
        obtain ⟨s, hs⟩ : ∃ s, S[i]? = some s := ⟨S[i], List.getElem?_eq_getElem hlt⟩
        have HS := Lib.hid hs
        clear hs
        go_wp2_with fail
        go_loopw [6] (fun kv wr' => ∃ k : Nat, k ≤ 4 ∧ k ≤ s.2.length ∧ kv = .int .i64 k ∧ Below w3.heap.size w3 wr') (fun kv _ => 4 - (intOf kv).toNat)
        case atStart => exact ⟨0, by omega, by omega, rfl, by (repeat' (first | with_reducible exact Below.refl _ _ | with_reducible assumption | with_reducible refine Below.drew ?_ | with_reducible refine below_drewN ?_ _ | with_reducible refine Below.setCell ?_ ?_ _ | with_reducible refine Below.alloc ?_ ?_ _ | omega | (simp; done) | (simp; omega)))⟩
        case round =>
          obtain ⟨k, hk4, hkl, rfl, hbk⟩ := hrel
          have T4 := Lib.hid (T3.out.below hbk)
          clear k2 k3
          obtain ⟨sb, so, F, cf, hA2, hsb, _, j1, jr⟩ := T4.out.gs.sm i s HS.out
          have k0 : wr.cell? ⟨wB, 0, none⟩ = some (.slice (some ⟨sb, so, none⟩) S.length cS) := by rw [← hA2]; exact T4.out.gs.wb.cell 0
          clear hA2 hsb
          by_cases hkl2 : k < s.2.length
          · by_cases hk42 : k < 4
            · obtain ⟨f, hf⟩ : ∃ f, s.2[k]? = some f := ⟨s.2[k], List.getElem?_eq_getElem hkl2⟩
              obtain ⟨fb, fo, rfl, hfb, hcf⟩ := jr k f hf
              have j2 : wr.cell? ⟨fb, fo + k, none⟩ = some (.int .i64 f) := by have := hcf 0 _ rfl; simpa using this
              have HFB := Lib.hid (HF.out s (List.mem_of_getElem? HS.out) f (List.mem_of_getElem? hf))
              have HFM : Hid (f ∈ s.2.take 4) := List.mem_of_getElem? (i := k) (by rw [List.getElem?_take, if_pos hk42]; exact hf)
              obtain ⟨y, hy⟩ : ∃ y, IntKind.i64.wrap ((i : Int) - f) = y := ⟨_, rfl⟩
              have HW := Lib.hid (to_wrap (i := i) (f := f) (y := y) (by omega) HFB.out hy)
              have m1 : (k : Int) < (s.2.length : Int) := by omega
              have m2 : (k : Int) < 4 := by omega
              clear hf hcf jr hfb
              by_cases hy2 : 0 ≤ y ∧ y < (i : Int)
              · obtain ⟨hto, hti, hyt⟩ := HW.out.1 hy2
                obtain ⟨t, ht⟩ : ∃ t, y.toNat = t := ⟨_, rfl⟩
                rw [ht] at hto hti hyt
                obtain ⟨q, hq1, hq2⟩ := T4.out.gs.gd.deps p i s HPI.out HS.out f HFM.out t hto
                have HPL2 := Lib.hid (fun W (hW : Below wr.heap.size wr W) => (T4.out.below hW).place hlen hq2)
                have HNM := nameL_any t
                rw [← hyt] at HNM
                have k1 : wr.cell? ⟨wB, 1, none⟩ = some (.pointer (some ⟨L, 0, none⟩)) := T4.out.gs.wb.cell 1
                have q1 : (q : Int) < (p : Int) := by omega
                have y1 : ¬ y < 0 := by omega
                have y2 : ¬ (i : Int) ≤ y := by omega
                have q2 : ¬ (p : Int) ≤ (q : Int) := by omega
                clear hto hyt ht hq2 hy2
                go_wp2_with fail
                go_region_held3 (fun w' => w'.cell? ⟨wB, 1, none⟩ = some (.pointer (some ⟨L, 0, none⟩))) (first | with_reducible exact k1 | go_keep)
                  (first | (go_at_call 22; refine (HNM _ (by omega)).mono ?_; rintro e w4 ⟨rfl, hb4⟩; have hw4 : Below wr.heap.size wr w4 := stepH (by (repeat' (first | with_reducible exact Below.refl _ _ | with_reducible assumption | with_reducible refine Below.drew ?_ | with_reducible refine below_drewN ?_ _ | with_reducible refine Below.setCell ?_ ?_ _ | with_reducible refine Below.alloc ?_ ?_ _ | omega | (simp; done) | (simp; omega)))) hb4; replace k1 := cellOf hw4 k1) | (go_at_call 24; refine (HPL2.out _ (by (repeat' (first | with_reducible exact Below.refl _ _ | with_reducible assumption | with_reducible refine Below.drew ?_ | with_reducible refine below_drewN ?_ _ | with_reducible refine Below.setCell ?_ ?_ _ | with_reducible refine Below.alloc ?_ ?_ _ | omega | (simp; done) | (simp; omega))))).mono ?_; rintro e w5 ⟨rfl, hb5⟩; have hw5 : Below wr.heap.size wr w5 := stepH (by (repeat' (first | with_reducible exact Below.refl _ _ | with_reducible assumption | with_reducible refine Below.drew ?_ | with_reducible refine below_drewN ?_ _ | with_reducible refine Below.setCell ?_ ?_ _ | with_reducible refine Below.alloc ?_ ?_ _ | omega | (simp; done) | (simp; omega)))) hb5; replace k1 := cellOf hb5 (by first | exact k1 | exact cell_drew k1)))
                all_goals (
                  clear k1 k0 j1 j2
                  go_wp2_with fail
                  go_roundw
                  case rel => exact ⟨k + 1, by omega, by omega, by go_num, stepH hbk (by (repeat' (first | with_reducible exact Below.refl _ _ | with_reducible assumption | with_reducible refine Below.drew ?_ | with_reducible refine below_drewN ?_ _ | with_reducible refine Below.setCell ?_ ?_ _ | with_reducible refine Below.alloc ?_ ?_ _ | omega | (simp; done) | (simp; omega))))⟩
                  case measure => simp [intOf]; omega)
              · by_cases y1 : y < 0
                all_goals (
                  have y2 : ¬ (y < 0) → (i : Int) ≤ y := by omega
                  (try replace y2 := y2 y1)
                  clear hy2
                  go_wp2_with fail
                  go_roundw
                  case rel => exact ⟨k + 1, by omega, by omega, by go_num, stepH hbk (by (repeat' (first | with_reducible exact Below.refl _ _ | with_reducible assumption | with_reducible refine Below.drew ?_ | with_reducible refine below_drewN ?_ _ | with_reducible refine Below.setCell ?_ ?_ _ | with_reducible refine Below.alloc ?_ ?_ _ | omega | (simp; done) | (simp; omega))))⟩
                  case measure => simp [intOf]; omega)
            · have m1 : (k : Int) < (s.2.length : Int) := by omega
              have m2 : ¬ (k : Int) < 4 := by omega
              go_wp2_with fail
              go_roundw
              case rel => exact ⟨i + 1, by omega, by go_num, hb.trans ((HW3.out.trans (hbk.mono HW3.out.size)).mono hb.size)⟩
              case measure => simp [intOf]; omega
          · have m1 : ¬ (k : Int) < (s.2.length : Int) := by omega
            go_wp2_with fail
            go_roundw
            case rel => exact ⟨i + 1, by omega, by go_num, hb.trans ((HW3.out.trans (hbk.mono HW3.out.size)).mono hb.size)⟩
            case measure => simp [intOf]; omega)
    · have l1 : ¬ (i : Int) < (S.length : Int) := by omega
      go_wp2_with fail
      go_ret
      exact ⟨rfl, hb⟩

end Go.Proofs.YtodlbfekoohpoaaDoor
