/- BootKept's walk. -/
import Derived.Test.YtodlbfekoohpoaaDoorKeptA
import Derived.Deep.DeepCutAuto
namespace Go.Proofs.YtodlbfekoohpoaaDoor
open Go.RowKit

set_option maxRecDepth 10000 in
set_option maxHeartbeats 16000000 in
theorem kept_any (O : List Op4) (A : Option Addr) (c : Nat) (E : Nat → Addr) (m : Int) (w : World) (hE : Env L5 E w) (hm : w.cell? ⟨5, 0, none⟩ = some (.int .i64 m)) (ho : RowAt encO 4 w w.heap.size A O) (hos : ∀ x ∈ O, x.2.2.1.size ≤ maxLen) (hOl : O.length ≤ maxLen) :
    Calls Tryd.prog 3 #[.slice A O.length c] w fun e w' => e = .returned (.bool true) ∧ Below w.heap.size w w' := by
  have LOW := Lib.hid (⟨L5_lt hE, cell_lt hm⟩ : (∀ g ∈ L5, g < w.heap.size ∧ (E g).block < w.heap.size) ∧ 5 < w.heap.size)
  have HE := Lib.hid hE
  have HM := Lib.hid hm
  have HO := Lib.hid ho
  have HS := Lib.hid hos
  clear hE hm ho hos
  go_enter Tryd.func3, Tryd.ntmps3
  go_wp2_with fail
  refine (first_any E m _ HE.out HM.out).mono ?_
  rintro e w1 ⟨rfl, hb1⟩
  go_wp2_with fail
  refine (new_any _).mono ?_
  rintro e w2 ⟨L, P, U, rfl, hl2, hb2⟩
  have HB2 := Lib.hid (hb1.trans (hb2.mono hb1.size))
  have ST2 := Lib.hid (st_new (b := w.heap.size) hb1.size (Nat.le_refl _) HB2.out HE.out HM.out LOW.out hl2)
  clear hl2 hb1 hb2
  go_wp2_with fail
  go_loopw [5] (fun iv wr => ∃ (k um : Nat) (v : Value) (N : List Nt) (cl : Bool), k ≤ 300 ∧ k ≤ O.length ∧ iv = .int .i64 k ∧ um ≤ k ∧ Hid (St w.heap.size E m L P U wr v N [] cl um ∧ Below w.heap.size w wr)) (fun iv _ => 300 - (intOf iv).toNat)
  case atStart => exact ⟨0, 0, _, _, _, by omega, by omega, rfl, by omega, ST2.out, HB2.out⟩
  case round =>
    clear ST2 HB2
    obtain ⟨k, um, v, N, cl, hk3, hkO, rfl, hum, hH⟩ := hrel
    obtain ⟨w3, rfl⟩ : ∃ x, x = wr := ⟨wr, rfl⟩
    have ST := Lib.hid hH.out.1
    have HB := Lib.hid hH.out.2
    clear hH
    by_cases hlt : k < O.length
    · by_cases hl3 : k < 300
      · have m1 : (k : Int) < (O.length : Int) := by omega
        have m2 : (k : Int) < 300 := by omega
        obtain ⟨⟨kd, vl, s, ob⟩, hx⟩ : ∃ x, O[k]? = some x := ⟨O[k], List.getElem?_eq_getElem hlt⟩
        obtain ⟨ab, ao, rfl, hab, hc⟩ := (HO.out.below HB.out (Nat.le_refl _)) k _ hx
        have c0 : w3.cell? ⟨ab, ao + k * 4, none⟩ = some (.int .i64 kd) := hc 0 _ rfl
        have c1 : w3.cell? ⟨ab, ao + k * 4 + 1, none⟩ = some (.int .i64 vl) := hc 1 _ rfl
        have c2 : w3.cell? ⟨ab, ao + k * 4 + 2, none⟩ = some (.string s) := hc 2 _ rfl
        have c3 : w3.cell? ⟨ab, ao + k * 4 + 3, none⟩ = some (.bool ob) := hc 3 _ rfl
        have hsz : s.size ≤ maxLen := HS.out _ (List.mem_of_getElem? hx)
        clear hc hx hab
        by_cases h200 : s.size ≤ 200
        · have m3 : ¬ (200 : Int) < (s.size : Int) := by omega
          go_upto_region 9 with fail
          have BX0 := Box.new ST.out.led (.cells #[.int .i64 kd, .int .i64 vl, .string s, .bool ob] 27)
          have ST0 := ST.out.below (show Below w3.heap.size w3 (w3.alloc (.cells #[.int .i64 kd, .int .i64 vl, .string s, .bool ob] 27)) by (repeat' (first | with_reducible exact Below.refl _ _ | with_reducible assumption | with_reducible refine Below.drew ?_ | with_reducible refine below_drewN ?_ _ | with_reducible refine Below.setCell ?_ ?_ _ | with_reducible refine Below.alloc ?_ ?_ _ | omega | (simp; done) | (simp; omega))))
          have HB0 : Below w.heap.size w (w3.alloc (.cells #[.int .i64 kd, .int .i64 vl, .string s, .bool ob] 27)) := by have hq := HB.out; exact hq.trans ((show Below w3.heap.size w3 (w3.alloc (.cells #[.int .i64 kd, .int .i64 vl, .string s, .bool ob] 27)) by (repeat' (first | with_reducible exact Below.refl _ _ | with_reducible assumption | with_reducible refine Below.drew ?_ | with_reducible refine below_drewN ?_ _ | with_reducible refine Below.setCell ?_ ?_ _ | with_reducible refine Below.alloc ?_ ?_ _ | omega | (simp; done) | (simp; omega)))).mono hq.size)
          clear ST HB c0 c1 c2 c3
          generalize w3.alloc (.cells #[.int .i64 kd, .int .i64 vl, .string s, .bool ob] 27) = w4 at BX0 ST0 HB0 ⊢
          generalize w3.heap.size = bx at BX0 ⊢
          have BX4 := Lib.hid BX0
          have ST4 := Lib.hid ST0
          have HB4 := Lib.hid HB0
          have k2 : w4.cell? ⟨bx, 2, none⟩ = some (.string s) := BX0.cell 2
          clear BX0 ST0 HB0
          have HNO := Lib.hid (notes_far _ L P U um v N [] cl w4 ST4.out.led)
          go_wp2_with fail
          refine HNO.out.mono ?_
          rintro e w5 ⟨⟨A1, rfl, hr1, hfar1⟩, hb5⟩
          have NF := Lib.hid (notOf ST4.out.led hfar1)
          have ST5 := Lib.hid (ST4.out.below hb5)
          have BX5 := Lib.hid (BX4.out.below hb5)
          have R5 := Lib.hid hr1
          have HB5 := Lib.hid (HB4.out.trans (ST4.out.keepB (LKeep.ofBelow (X := []) (L := L) (P := P) (U := U) (v := v) hb5) (by simp)))
          have HCL := Lib.hid (closed_any _ L P U um v N [] cl w5 ST5.out.led)
          clear hr1 hfar1 hb5 k2 ST4 BX4 HB4 HNO
          go_wp2_with fail
          refine HCL.out.mono ?_
          rintro e w6 ⟨rfl, hb6⟩
          have ST6 := Lib.hid (ST5.out.below hb6)
          have BX6 := Lib.hid (BX5.out.below hb6)
          have R6 := Lib.hid ((R5.out.below hb6 (Nat.le_refl _)).more hb6.size)
          have HB6 := Lib.hid (HB5.out.trans (ST5.out.keepB (LKeep.ofBelow (X := []) (L := L) (P := P) (U := U) (v := v) hb6) (by simp)))
          have k0 : w6.cell? ⟨bx, 0, none⟩ = some (.int .i64 kd) := BX6.out.cell 0
          clear hb6 ST5 BX5 R5 HB5 HCL
          go_upto_block 2 with fail
          go_cut [9] (fun s9 wx => ∃ (v1 : Value) (N1 : List Nt) (cl1 : Bool) (um1 : Nat), um1 ≤ um + 1 ∧ Hid (St w.heap.size E m L P U wx v1 N1 [] cl1 um1 ∧ LKeep [] L P U v w6 v1 wx) ∧ ((Hid (N1 = N) ∧ (s9 = .nilIface ∨ ∃ g, s9 = .iface 98 (.pointer (some (E g))))) ∨ (Hid (N1 = N ++ [(s, vl)] ∧ nameB s = true ∧ cl = false) ∧ s9 = .nilIface)))
          case first =>
            as_aux_lemma =>
            have k1 : w6.cell? ⟨bx, 1, none⟩ = some (.int .i64 vl) := BX6.out.cell 1
            have k2 : w6.cell? ⟨bx, 2, none⟩ = some (.string s) := BX6.out.cell 2
            have hmf : ∀ (fn : Fn) (first cap : Array Value) (w : World), (Instr.makeFunc fn first cap).run Tryd.prog w = .ok (.func fn first cap) w := fun _ _ _ _ => rfl
            by_cases hk1 : kd = 1
            · subst hk1
              have b1 : ((1 : Int) == 1) = true := rfl
              cases hme : mayE (nameB s) N [] cl s 1 with
              | none =>
                have HC := Lib.hid (ST6.out.noteOk s vl hsz hme)
                have HMN := Lib.hid (mayE_none hme)
                clear hme
                go_wp2_with fail
                refine HC.out.mono ?_
                rintro e w7 ⟨rfl, v1, s7, hk7⟩
                have S7 := Lib.hid s7
                have K7 := Lib.hid hk7
                clear s7 hk7
                go_wp2_with fail
                go_meet
                exact ⟨v1, N ++ [(s, vl)], cl, um, by omega, ⟨S7.out, K7.out⟩, .inr ⟨⟨rfl, HMN.out.2.1, HMN.out.1⟩, rfl⟩⟩
              | some g =>
                have HC := Lib.hid (ST6.out.noteNo s vl g hsz hme)
                clear hme
                go_wp2_with fail
                refine HC.out.mono ?_
                rintro e w7 ⟨rfl, s7, hb7⟩
                have S7 := Lib.hid s7
                have K7 := Lib.hid hb7
                clear s7 hb7
                go_wp2_with fail
                go_meet
                exact ⟨v, N, cl, um, by omega, ⟨S7.out, LKeep.ofBelow K7.out⟩, .inl ⟨rfl, .inr ⟨g, rfl⟩⟩⟩
            · have b1 : (kd == 1) = false := by rw [beq_eq_false_iff_ne]; exact hk1
              by_cases hk2 : kd = 2
              · subst hk2
                have b2 : ((2 : Int) == 2) = true := rfl
                clear hk1
                cases hix : idxN N s with
                | some i =>
                  obtain ⟨y, hy, _⟩ := idxN_lt hix
                  have HC := Lib.hid (fun f => once_has w.heap.size L P U um f v N [] cl s i y w6 ST6.out.led hsz hix hy)
                  clear hix hy
                  go_wp2_with fail
                  refine (HC.out _).mono ?_
                  rintro e w7 ⟨rfl, hb7⟩
                  have K7 := Lib.hid hb7
                  clear hb7
                  go_wp2_with fail
                  go_meet
                  exact ⟨v, N, cl, um, by omega, ⟨ST6.out.below K7.out, LKeep.ofBelow K7.out⟩, .inl ⟨rfl, .inl rfl⟩⟩
                | none =>
                  cases hme : mayE (nameB s) N [] cl s 0 with
                  | none =>
                    have HMN := Lib.hid (mayE_none hme)
                    have HC := Lib.hid (ST6.out.onceOk (X := []) s 13 #[.pointer (some ⟨bx, 0, none⟩)] (fun r v2 N2 cl2 um2 W => r = vl ∧ N2 = N ∧ um2 = um + 1) hsz (by omega) hme call_kept
                      (fun W hS hk => (kept1_any vl bx W ((hk.box BX6.out (by simp)).cell 1)).mono (fun e W' q => ⟨vl, v, N, cl, um + 1, q.1, hS.below q.2, LKeep.ofBelow q.2, ⟨rfl, rfl, rfl⟩, HMN.out.1, HMN.out.2.2.1, HMN.out.2.2.2.2⟩)) (by simp) (fun r v2 v3 N2 cl2 um2 W W' h _ => h))
                    clear hix hme
                    go_wp2_with fail
                    refine HC.out.mono ?_
                    rintro e w7 ⟨r, v1, N2, um2, rfl, s7, hk7, rfl, rfl, rfl⟩
                    have S7 := Lib.hid s7
                    have K7 := Lib.hid hk7
                    clear s7 hk7
                    go_wp2_with fail
                    go_meet
                    exact ⟨v1, N2 ++ [(s, r)], false, um + 1, by omega, ⟨S7.out, K7.out⟩, .inr ⟨⟨rfl, HMN.out.2.1, HMN.out.1⟩, rfl⟩⟩
                  | some g =>
                    have HC := Lib.hid (fun f => ST6.out.onceNo s f g hsz hix hme)
                    clear hix hme
                    go_wp2_with fail
                    refine (HC.out _).mono ?_
                    rintro e w7 ⟨rfl, s7, hb7⟩
                    have S7 := Lib.hid s7
                    have K7 := Lib.hid hb7
                    clear s7 hb7
                    go_wp2_with fail
                    go_meet
                    exact ⟨v, N, cl, um, by omega, ⟨S7.out, LKeep.ofBelow K7.out⟩, .inl ⟨rfl, .inr ⟨g, rfl⟩⟩⟩
              · have b2 : (kd == 2) = false := by rw [beq_eq_false_iff_ne]; exact hk2
                by_cases hk3 : kd = 3
                · subst hk3
                  have b3 : ((3 : Int) == 3) = true := rfl
                  clear hk1 hk2
                  have HC := Lib.hid (close_any w.heap.size L P U um v N [] cl w6 ST6.out.led)
                  have b4 : ((!cl) == cl) = false := by cases cl <;> rfl
                  go_wp2_with fail
                  refine HC.out.mono ?_
                  rintro e w7 ⟨rfl, hl7, hk7⟩
                  have S7 := Lib.hid (ST6.out.keep hl7 hk7 (by simp))
                  have K7 := Lib.hid hk7
                  have HC2 := Lib.hid (closed_any w.heap.size L P U um v N [] true w7 hl7)
                  clear hl7 hk7
                  go_wp2_with fail
                  refine HC2.out.mono ?_
                  rintro e w8 ⟨rfl, hb8⟩
                  have S8 := Lib.hid (S7.out.below hb8)
                  have K8 := Lib.hid (K7.out.trans (LKeep.ofBelow hb8))
                  clear hb8
                  go_wp2_with fail
                  go_meet
                  exact ⟨v, N, true, um, by omega, ⟨S8.out, K8.out⟩, .inl ⟨rfl, .inl rfl⟩⟩
                · have b3 : (kd == 3) = false := by rw [beq_eq_false_iff_ne]; exact hk3
                  go_wp2_with fail
                  go_meet
                  exact ⟨v, N, cl, um, by omega, ⟨ST6.out, LKeep.refl _ _ _ _ _ _⟩, .inl ⟨rfl, .inl rfl⟩⟩
          case rest =>
            as_aux_lemma =>
            clear k0
            obtain ⟨v1, N1, cl1, um1, hu1, hs1, hor⟩ := hcut
            obtain ⟨w7, rfl⟩ : ∃ x : World, x = wc := ⟨_, rfl⟩
            have ST7 := Lib.hid hs1.out.1
            have BX7 := Lib.hid (hs1.out.2.box BX6.out (by simp))
            have R7 := Lib.hid (row_keep R6.out NF.out hs1.out.2)
            have HB7 := Lib.hid (HB6.out.trans (ST6.out.keepB hs1.out.2 (by simp)))
            have HNO := Lib.hid (notes_far _ L P U um1 v1 N1 [] cl1 w7 ST7.out.led)
            have hlen1 := ST7.out.led.len
            clear hs1 R6 NF BX6 ST6 HB6
            go_wp2_with fail
            refine HNO.out.mono ?_
            rintro e w8 ⟨⟨A2, rfl, hr2, _⟩, hb8⟩
            have ST8 := Lib.hid (ST7.out.below hb8)
            have BX8 := Lib.hid (BX7.out.below hb8)
            have R8 := Lib.hid ((R7.out.below hb8 (Nat.le_refl _)).more hb8.size)
            have R9 := Lib.hid hr2
            have HB8 := Lib.hid (HB7.out.trans (ST7.out.keepB (LKeep.ofBelow (X := []) (L := L) (P := P) (U := U) (v := v1) hb8) (by simp)))
            clear hr2 hb8 ST7 BX7 R7 HB7 HNO
            rcases hor with ⟨hN, he⟩ | ⟨hN, rfl⟩
            · obtain rfl : N = N1 := hN.out.symm
              have HGR := Lib.hid (grown_any N N A1 A2 N.length N.length w8 R8.out R9.out List.take_length (Nat.le_refl _) (by omega))
              have e1 : IntKind.i64.wrap ((N.length : Int) - (N.length : Int)) = 0 := by rw [Int.sub_self]; rfl
              clear hN
              have hfin : ∀ wx, Below w8.heap.size w8 wx → Hid (St w.heap.size E m L P U wx v1 N [] cl1 um1 ∧ Below w.heap.size w wx) := fun wx hb => ⟨ST8.out.below hb, HB8.out.trans (ST8.out.keepB (LKeep.ofBelow (X := []) (L := L) (P := P) (U := U) (v := v1) hb) (by simp))⟩
              have HFIN := Lib.hid hfin
              clear hfin
              rcases he with rfl | ⟨g, rfl⟩
              · cases cl
                all_goals (
                  go_wp2_with fail
                  refine HGR.out.mono ?_
                  rintro e w9 ⟨rfl, hb9⟩
                  have HB9 := Lib.hid hb9
                  clear hb9
                  go_wp2_with fail
                  go_roundw
                  case rel => exact ⟨k + 1, um1, v1, N, cl1, by omega, by omega, by go_num, by omega, HFIN.out _ HB9.out⟩
                  case measure => simp [intOf]; omega)
              · have hen := fun w => eql_nil (E g) w
                cases cl
                all_goals (
                  go_wp2_with fail
                  refine HGR.out.mono ?_
                  rintro e w9 ⟨rfl, hb9⟩
                  have HB9 := Lib.hid hb9
                  clear hb9
                  go_wp2_with fail
                  go_roundw
                  case rel => exact ⟨k + 1, um1, v1, N, cl1, by omega, by omega, by go_num, by omega, HFIN.out _ HB9.out⟩
                  case measure => simp [intOf]; omega)
            · obtain ⟨rfl, hnb, rfl⟩ := hN.out
              have HGR := Lib.hid (grown_any N (N ++ [(s, vl)]) A1 A2 N.length (N ++ [(s, vl)]).length w8 R8.out R9.out (by simp) (Nat.le_refl _) (by simp at hlen1; omega))
              have HLN : Hid ((N ++ [(s, vl)]).length = N.length + 1) := by show _ = _; simp
              have HRF := Lib.hid (nameR_any s)
              have HNB := Lib.hid hnb
              have hlen0 : N.length ≤ 200 := by simp at hlen1; omega
              have HLAST := Lib.hid (R9.out N.length (s, vl) (by simp))
              clear hN hnb hlen1
              have hfin : ∀ wx, Below w8.heap.size w8 wx → Hid (St w.heap.size E m L P U wx v1 (N ++ [(s, vl)]) [] cl1 um1 ∧ Below w.heap.size w wx) := fun wx hb => ⟨ST8.out.below hb, HB8.out.trans (ST8.out.keepB (LKeep.ofBelow (X := []) (L := L) (P := P) (U := U) (v := v1) hb) (by simp))⟩
              have HFIN := Lib.hid hfin
              clear hfin
              obtain ⟨n1, hn1⟩ : ∃ n1, (N ++ [(s, vl)]).length = n1 := ⟨_, rfl⟩
              rw [hn1] at HGR HLN ⊢
              have hn2 : n1 = N.length + 1 := HLN.out
              have e1 : IntKind.i64.wrap ((n1 : Int) - (N.length : Int)) = 1 := by rw [show (n1 : Int) - (N.length : Int) = 1 by omega]; kernel_rfl
              have e2 : IntKind.i64.wrap ((n1 : Int) - 1) = (N.length : Int) := by rw [show (n1 : Int) - 1 = (N.length : Int) by omega]; simp [IntKind.wrap, IntKind.signed, IntKind.bits]; omega
              have e3 : (N.length : Int) < (n1 : Int) := by omega
              have HN2 := Lib.hid hn2
              clear hn1 hn2 HLN
              go_wp2_with fail
              refine HGR.out.mono ?_
              rintro e w9 ⟨rfl, hb9⟩
              have HB9 := Lib.hid hb9
              have k2 : w9.cell? ⟨bx, 2, none⟩ = some (.string s) := (BX8.out.below hb9).cell 2
              clear hb9
              go_wp2_with fail
              refine (HRF.out _ HNB.out).mono ?_
              rintro e w10 ⟨rfl, hb10⟩
              have HB10 := Lib.hid (HB9.out.trans (hb10.mono HB9.out.size))
              clear k2 hb10
              have k1 : w10.cell? ⟨bx, 1, none⟩ = some (.int .i64 vl) := (BX8.out.below HB10.out).cell 1
              have k2 : w10.cell? ⟨bx, 2, none⟩ = some (.string s) := (BX8.out.below HB10.out).cell 2
              obtain ⟨lb, lo, rfl, hlb, hlc⟩ := HLAST.out
              have j0 : w10.cell? ⟨lb, lo + N.length * 2, none⟩ = some (.string s) := cellOf HB10.out (hlc 0 _ rfl)
              have j1 : w10.cell? ⟨lb, lo + N.length * 2 + 1, none⟩ = some (.int .i64 vl) := cellOf HB10.out (hlc 1 _ rfl)
              have b1 : (vl == vl) = true := beq_self_eq_true _
              have lbx : bx < w10.heap.size := (BX8.out.below HB10.out).1.lt
              have nbx : bx ≠ w10.heap.size := Nat.ne_of_lt lbx
              clear hlb hlc HLAST
              go_wp2_with fail
              go_roundw
              case rel => exact ⟨k + 1, um1, v1, N ++ [(s, vl)], cl1, by omega, by omega, by go_num, by omega, HFIN.out _ (stepH HB10.out (by (repeat' (first | with_reducible exact Below.refl _ _ | with_reducible assumption | with_reducible refine Below.drew ?_ | with_reducible refine below_drewN ?_ _ | with_reducible refine Below.setCell ?_ ?_ _ | with_reducible refine Below.alloc ?_ ?_ _ | omega | (simp; done) | (simp; omega)))))⟩
              case measure => simp [intOf]; omega
        · have m3 : (200 : Int) < (s.size : Int) := by omega
          go_wp2_with fail
          go_roundw
          case rel => exact ⟨k + 1, um, v, N, cl, by omega, by omega, by go_num, by omega, ST.out.below (by (repeat' (first | with_reducible exact Below.refl _ _ | with_reducible assumption | with_reducible refine Below.drew ?_ | with_reducible refine below_drewN ?_ _ | with_reducible refine Below.setCell ?_ ?_ _ | with_reducible refine Below.alloc ?_ ?_ _ | omega | (simp; done) | (simp; omega)))), HB.out.trans ((show Below w3.heap.size w3 _ by (repeat' (first | with_reducible exact Below.refl _ _ | with_reducible assumption | with_reducible refine Below.drew ?_ | with_reducible refine below_drewN ?_ _ | with_reducible refine Below.setCell ?_ ?_ _ | with_reducible refine Below.alloc ?_ ?_ _ | omega | (simp; done) | (simp; omega)))).mono HB.out.size)⟩
          case measure => simp [intOf]; omega
      · have m1 : (k : Int) < (O.length : Int) := by omega
        have m2 : ¬ (k : Int) < 300 := by omega
        go_wp2_with fail
        go_ret
        exact ⟨rfl, HB.out⟩
    · have m1 : ¬ (k : Int) < (O.length : Int) := by omega
      go_wp2_with fail
      go_ret
      exact ⟨rfl, HB.out⟩

end Go.Proofs.YtodlbfekoohpoaaDoor
