/- ScaleOwn of scales that are ones: walk. -/
import Derived.Test.YtmankldedhgdiaaDoorSoP
namespace Go.Proofs.YtmankldedhgdiaaDoor
open Go.RowKit

set_option maxRecDepth 100000 in
set_option maxHeartbeats 32000000 in
theorem scaleOwn_main (gs ts : List (Rat × Rat)) (A B : Option Addr) (c d : Nat) (k x : Rat) (E : Nat → Addr) (w : World) (hl : RowAt encR 4 w w.heap.size A (gs.map bR)) (hr : RowAt encR 4 w w.heap.size B (ts.map bR)) (hg : ∀ b ∈ gs, GoodB b) (ht : ∀ b ∈ ts, GoodB b) (hs : scaleE (gs.map bR) = none) (hu : scaleE (ts.map bR) = none) (h1 : gs.length ≤ 32) (h2 : ts.length ≤ 32) (p1 : 0 < gs.length) (rg : Ris gs) (rt : Ris ts) (hk : Good k) (hx : Good x) (hE : Env LC E w) :
    Calls Tryd.prog 3 #[.slice A gs.length c, .slice B ts.length d, .agg #[.int .i64 k.num, .int .i64 k.den], .agg #[.int .i64 x.num, .int .i64 x.den]] w fun e w' => e = .returned (.bool true) ∧ Below w.heap.size w w' := by
  obtain ⟨inf0, hi, jz0, jz1, jz2⟩ := info_parts infoBr
  obtain ⟨inf2, hi2, js0, js1, js2⟩ := info_parts infoSl
  have HVS := Lib.hid (fun w' (h : Below w.heap.size w w') => by
    have q := refValid15_any (gs.map bR) A c w' ((hl.below h (Nat.le_refl _)).more h.size) (by rw [List.length_map]; omega) (in4_good hg)
    rw [List.length_map, hs] at q; exact q)
  have HVT := Lib.hid (fun w' (h : Below w.heap.size w w') => by
    have q := refValid15_any (ts.map bR) B d w' ((hr.below h (Nat.le_refl _)).more h.size) (by rw [List.length_map]; omega) (in4_good ht)
    rw [List.length_map, hu] at q; exact q)
  have HBS := Lib.hid (fun w' (h : Below w.heap.size w w') => by
    have q := brackets_any (gs.map bR) A c w' ((hl.below h (Nat.le_refl _)).more h.size) (by rw [List.length_map]; omega)
    rw [List.length_map] at q; exact q)
  have HBT := Lib.hid (fun w' (h : Below w.heap.size w w') => by
    have q := brackets_any (ts.map bR) B d w' ((hr.below h (Nat.le_refl _)).more h.size) (by rw [List.length_map]; omega)
    rw [List.length_map] at q; exact q)
  have HVK : Hid (validB k.num k.den = true) := Lib.hid (by rw [validB_good]; exact decide_eq_true hk)
  have HVX : Hid (validB x.num x.den = true) := Lib.hid (by rw [validB_good]; exact decide_eq_true hx)
  have kb := bds hk
  have xb := bds hx
  have HE := Lib.hid hE
  have HG := Lib.hid hg
  have HT := Lib.hid ht
  have HS := Lib.hid hs
  have HU := Lib.hid hu
  have HRG := Lib.hid rg
  have HRT := Lib.hid rt
  have HKG := Lib.hid hk
  have HXG := Lib.hid hx
  have HL := Lib.hid hl
  have HR := Lib.hid hr
  obtain ⟨kb1, kb2, kb3, kb4⟩ := kb
  obtain ⟨xb1, xb2, xb3, xb4⟩ := xb
  have q1 : decide ((200 : Int) < (gs.length : Int)) = false := decide_eq_false (by omega)
  have q2 : decide ((200 : Int) < (ts.length : Int)) = false := decide_eq_false (by omega)
  clear hl hr hg ht hs hu rg rt hk hx hE
  go_enter Tryd.func3, Tryd.ntmps3
  go_wp2_with fail
  refine (first15_any E _ (HE.out.below (by (repeat' (first | with_reducible exact Below.refl _ _ | with_reducible assumption | with_reducible refine Below.drew ?_ | with_reducible refine below_drewN ?_ _ | with_reducible refine Below.setCell ?_ ?_ _ | with_reducible refine Below.alloc ?_ ?_ _ | omega | (simp; done) | (simp; omega)))))).mono ?_
  rintro e w1 ⟨rfl, hb1⟩
  have hw1 : Below w.heap.size w w1 := stepH (by (repeat' (first | with_reducible exact Below.refl _ _ | with_reducible assumption | with_reducible refine Below.drew ?_ | with_reducible refine below_drewN ?_ _ | with_reducible refine Below.setCell ?_ ?_ _ | with_reducible refine Below.alloc ?_ ?_ _ | omega | (simp; done) | (simp; omega)))) hb1
  have K := keepH hb1 (g := w.heap.size) (blk_old (blk_new rfl))
  have X := keepH hb1 (g := w.heap.size + 1) (blk_new (by simp))
  have z1 := hw1.size
  clear hb1
  have cK := cellH K
  obtain ⟨lK, lK1, lK2⟩ := ltH K
  have cX := cellH X
  obtain ⟨lX, lX1, lX2⟩ := ltH X
  go_wp2_with fail
  refine (HVS.out _ (by (repeat' (first | with_reducible exact Below.refl _ _ | with_reducible assumption | with_reducible refine Below.drew ?_ | with_reducible refine below_drewN ?_ _ | with_reducible refine Below.setCell ?_ ?_ _ | with_reducible refine Below.alloc ?_ ?_ _ | omega | (simp; done) | (simp; omega))))).mono ?_
  rintro e w2 ⟨rfl, hb2⟩
  have hw2 : Below w.heap.size w w2 := stepH (by (repeat' (first | with_reducible exact Below.refl _ _ | with_reducible assumption | with_reducible refine Below.drew ?_ | with_reducible refine below_drewN ?_ _ | with_reducible refine Below.setCell ?_ ?_ _ | with_reducible refine Below.alloc ?_ ?_ _ | omega | (simp; done) | (simp; omega)))) hb2
  unfold codeE
  replace K := keepH hb2 K.out
  replace X := keepH hb2 X.out
  have z2 := hw2.size
  clear hb2 hw1 z1
  clear cK lK lK1 lK2 cX lX lX1 lX2
  have cK := cellH K
  obtain ⟨lK, lK1, lK2⟩ := ltH K
  have cX := cellH X
  obtain ⟨lX, lX1, lX2⟩ := ltH X
  go_wp2_with fail
  refine (HVT.out _ (by (repeat' (first | with_reducible exact Below.refl _ _ | with_reducible assumption | with_reducible refine Below.drew ?_ | with_reducible refine below_drewN ?_ _ | with_reducible refine Below.setCell ?_ ?_ _ | with_reducible refine Below.alloc ?_ ?_ _ | omega | (simp; done) | (simp; omega))))).mono ?_
  rintro e w3 ⟨rfl, hb3⟩
  have hw3 : Below w.heap.size w w3 := stepH (by (repeat' (first | with_reducible exact Below.refl _ _ | with_reducible assumption | with_reducible refine Below.drew ?_ | with_reducible refine below_drewN ?_ _ | with_reducible refine Below.setCell ?_ ?_ _ | with_reducible refine Below.alloc ?_ ?_ _ | omega | (simp; done) | (simp; omega)))) hb3
  unfold codeE
  replace K := keepH hb3 K.out
  replace X := keepH hb3 X.out
  have z3 := hw3.size
  clear hb3 hw2 z2
  clear cK lK lK1 lK2 cX lX lX1 lX2
  have cK := cellH K
  obtain ⟨lK, lK1, lK2⟩ := ltH K
  have cX := cellH X
  obtain ⟨lX, lX1, lX2⟩ := ltH X
  go_wp2_with fail
  refine (refv_is k.num k.den true _ HVK.out kb1 kb2 kb3 kb4).mono ?_
  rintro e w4 ⟨rfl, hb4⟩
  have hw4 : Below w.heap.size w w4 := stepH (by (repeat' (first | with_reducible exact Below.refl _ _ | with_reducible assumption | with_reducible refine Below.drew ?_ | with_reducible refine below_drewN ?_ _ | with_reducible refine Below.setCell ?_ ?_ _ | with_reducible refine Below.alloc ?_ ?_ _ | omega | (simp; done) | (simp; omega)))) hb4
  replace K := keepH hb4 K.out
  replace X := keepH hb4 X.out
  have z4 := hw4.size
  clear hb4 hw3 z3
  clear cK lK lK1 lK2 cX lX lX1 lX2
  have cK := cellH K
  obtain ⟨lK, lK1, lK2⟩ := ltH K
  have cX := cellH X
  obtain ⟨lX, lX1, lX2⟩ := ltH X
  go_wp2_with fail
  refine (refv_is x.num x.den true _ HVX.out xb1 xb2 xb3 xb4).mono ?_
  rintro e w5 ⟨rfl, hb5⟩
  have hw5 : Below w.heap.size w w5 := stepH (by (repeat' (first | with_reducible exact Below.refl _ _ | with_reducible assumption | with_reducible refine Below.drew ?_ | with_reducible refine below_drewN ?_ _ | with_reducible refine Below.setCell ?_ ?_ _ | with_reducible refine Below.alloc ?_ ?_ _ | omega | (simp; done) | (simp; omega)))) hb5
  replace K := keepH hb5 K.out
  replace X := keepH hb5 X.out
  have z5 := hw5.size
  clear hb5 hw4 z4
  clear cK lK lK1 lK2 cX lX lX1 lX2
  have cK := cellH K
  obtain ⟨lK, lK1, lK2⟩ := ltH K
  have cX := cellH X
  obtain ⟨lX, lX1, lX2⟩ := ltH X
  clear HVS HVT HVK HVX kb1 kb2 kb3 kb4 xb1 xb2 xb3 xb4
  clear cK lK lK1 lK2 cX lX lX1 lX2
  have RB : Hid (∀ w', Below w5.heap.size w5 w' → Below w.heap.size w w') := Lib.hid (fun w' h => hw5.trans (h.mono z5))
  have HL5 := Lib.hid ((HL.out.below hw5 (Nat.le_refl _)).more z5)
  have HR5 := Lib.hid ((HR.out.below hw5 (Nat.le_refl _)).more z5)
  replace HE := Lib.hid (HE.out.below hw5)
  replace HBS := Lib.hid (fun w' h => HBS.out w' (RB.out w' h))
  replace HBT := Lib.hid (fun w' h => HBT.out w' (RB.out w' h))
  have lK := lt_of_H K
  have lX := lt_of_H X
  clear HL HR hw5 z5
  have G0 := Lib.hid (OwnAll.nil w5.heap.size w5)
  have hw5 : Below w5.heap.size w5 w5 := Below.refl _ _
  have zzw5 := hw5.size
  have hw5 := hw5
  go_wp2_with fail
  refine (HBS.out _ (by (repeat' (first | with_reducible exact Below.refl _ _ | with_reducible assumption | with_reducible refine Below.drew ?_ | with_reducible refine below_drewN ?_ _ | with_reducible refine Below.setCell ?_ ?_ _ | with_reducible refine Below.alloc ?_ ?_ _ | omega | (simp; done) | (simp; omega))))).mono ?_
  rintro e w6 ⟨⟨v6, rfl, hown⟩, hb⟩
  have hw6 : Below w5.heap.size w5 w6 := stepH hw5 hb
  have zw6 := hw6.size
  have y6 := hb.size
  have s6 : Below w5.heap.size w5 w6 := hb
  have HO6 : Hid (World.ownsRow w6 w5.heap.size 31 4 v6 gs.length ((gs.map bR).flatMap encR)) := by unfold Own at hown; rw [List.length_map] at hown; exact Lib.hid hown
  clear hown hb
  go_wp2_with fail
  refine (f15_any 47 1 _).mono ?_
  rintro e w7 ⟨rfl, hb⟩
  have hw7 : Below w5.heap.size w5 w7 := stepH hw6 hb
  have zw7 := hw7.size
  have s7 : Below w5.heap.size w5 w7 := stepH s6 hb
  have y7 := s7.size
  replace HO6 := Lib.hid (own_below HO6.out hb)
  clear hb
  go_wp2_with (at_builtin; go_must (refine wpList_append_own _ rfl (.tmp 72) (.tmp 75) 22 rfl w5.heap.size 31 inf0 _ 4 32 Tryd.underlying22 hi jz0 jz1 jz2 rfl (by decide) v6 gs.length _ rfl (own_below HO6.out (by (repeat' (first | with_reducible exact Below.refl _ _ | with_reducible assumption | with_reducible refine Below.drew ?_ | with_reducible refine below_drewN ?_ _ | with_reducible refine Below.setCell ?_ ?_ _ | with_reducible refine Below.alloc ?_ ?_ _ | omega | (simp; done) | (simp; omega))))) ⟨w7.heap.size, 0, none⟩ 1 1 [.int .i64 47, .int .i64 1, .int .i64 0, .int .i64 0] rfl rfl (World.news_of_block (cs := #[.int .i64 47, .int .i64 1, .int .i64 0, .int .i64 0]) (blk_new (by simp))) (by simp [Value.oneCell']) (by unfold maxLen; omega) (by omega) (by simp; omega) ?_); intro v8 w8 hown9 hgrow9 _; have s8 : Below w5.heap.size w5 w8 := Below.grown (by (repeat' (first | with_reducible exact Below.refl _ _ | with_reducible assumption | with_reducible refine Below.drew ?_ | with_reducible refine below_drewN ?_ _ | with_reducible refine Below.setCell ?_ ?_ _ | with_reducible refine Below.alloc ?_ ?_ _ | omega | (simp; done) | (simp; omega)))) hgrow9 (by simp; omega) (fun g hg => (HO6.out.lt g hg).1); have y8 := s8.size; have hw8 : Below w5.heap.size w5 w8 := stepH hw5 s8; have zzw8 := hw8.size; replace G0 := Lib.hid (G0.out.snoc (v := v8) (l := gs.map bR ++ [(47, 1, 0, 0)]) s8 (by unfold Own; rw [List.length_append, List.length_map, List.flatMap_append]; exact hown9) zzw5); clear hown9 hgrow9 HO6 s6 s7 hw6 hw7 zw6 zw7 y6 y7 s8 y8)
  go_wp2_with fail
  refine (HBT.out _ (by (repeat' (first | with_reducible exact Below.refl _ _ | with_reducible assumption | with_reducible refine Below.drew ?_ | with_reducible refine below_drewN ?_ _ | with_reducible refine Below.setCell ?_ ?_ _ | with_reducible refine Below.alloc ?_ ?_ _ | omega | (simp; done) | (simp; omega))))).mono ?_
  rintro e w9 ⟨⟨v9, rfl, hown⟩, hb⟩
  have hw9 : Below w5.heap.size w5 w9 := stepH hw8 hb
  have zw9 := hw9.size
  have y9 := hb.size
  have s9 : Below w8.heap.size w8 w9 := hb
  have HO9 : Hid (World.ownsRow w9 w8.heap.size 31 4 v9 ts.length ((ts.map bR).flatMap encR)) := by unfold Own at hown; rw [List.length_map] at hown; exact Lib.hid hown
  clear hown hb
  go_wp2_with fail
  refine (f15_any 47 1 _).mono ?_
  rintro e w10 ⟨rfl, hb⟩
  have hw10 : Below w5.heap.size w5 w10 := stepH hw9 hb
  have zw10 := hw10.size
  have s10 : Below w8.heap.size w8 w10 := stepH s9 hb
  have y10 := s10.size
  replace HO9 := Lib.hid (own_below HO9.out hb)
  clear hb
  go_wp2_with (at_builtin; go_must (refine wpList_append_own _ rfl (.tmp 78) (.tmp 81) 22 rfl w8.heap.size 31 inf0 _ 4 32 Tryd.underlying22 hi jz0 jz1 jz2 rfl (by decide) v9 ts.length _ rfl (own_below HO9.out (by (repeat' (first | with_reducible exact Below.refl _ _ | with_reducible assumption | with_reducible refine Below.drew ?_ | with_reducible refine below_drewN ?_ _ | with_reducible refine Below.setCell ?_ ?_ _ | with_reducible refine Below.alloc ?_ ?_ _ | omega | (simp; done) | (simp; omega))))) ⟨w10.heap.size, 0, none⟩ 1 1 [.int .i64 47, .int .i64 1, .int .i64 0, .int .i64 0] rfl rfl (World.news_of_block (cs := #[.int .i64 47, .int .i64 1, .int .i64 0, .int .i64 0]) (blk_new (by simp))) (by simp [Value.oneCell']) (by unfold maxLen; omega) (by omega) (by simp; omega) ?_); intro v11 w11 hown9 hgrow9 _; have s11 : Below w8.heap.size w8 w11 := Below.grown (by (repeat' (first | with_reducible exact Below.refl _ _ | with_reducible assumption | with_reducible refine Below.drew ?_ | with_reducible refine below_drewN ?_ _ | with_reducible refine Below.setCell ?_ ?_ _ | with_reducible refine Below.alloc ?_ ?_ _ | omega | (simp; done) | (simp; omega)))) hgrow9 (by simp; omega) (fun g hg => (HO9.out.lt g hg).1); have y11 := s11.size; have hw11 : Below w5.heap.size w5 w11 := stepH hw8 s11; have zzw11 := hw11.size; replace G0 := Lib.hid (G0.out.snoc (v := v11) (l := ts.map bR ++ [(47, 1, 0, 0)]) s11 (by unfold Own; rw [List.length_append, List.length_map, List.flatMap_append]; exact hown9) zzw8); clear hown9 hgrow9 HO9 s9 s10 hw9 hw10 zw9 zw10 y9 y10 s11 y11)
  have G1 : Hid (OwnAll w5.heap.size w11 [v8, v11] [gs.map bR ++ [(47, 1, 0, 0)], ts.map bR ++ [(47, 1, 0, 0)]]) := G0
  clear G0
  have og1 := G1.out.own 0 v8 _ rfl rfl
  obtain ⟨g1, c1, eg1, hbg1, hcg1, _, _⟩ := own_cellsS (fun x _ => encR_len x) (by simp) og1
  rw [List.length_append, List.length_map] at eg1 hcg1
  replace eg1 : v8 = .slice (some ⟨g1, 0, none⟩) (gs.length + 1) c1 := eg1
  replace hcg1 : gs.length + 1 ≤ c1 := hcg1
  subst eg1
  have Rg1 := Lib.hid (own_take og1)
  clear og1
  have og2 := G1.out.own 1 v11 _ rfl rfl
  obtain ⟨g2, c2, eg2, hbg2, hcg2, _, _⟩ := own_cellsS (fun x _ => encR_len x) (by simp) og2
  rw [List.length_append, List.length_map] at eg2 hcg2
  replace eg2 : v11 = .slice (some ⟨g2, 0, none⟩) (ts.length + 1) c2 := eg2
  replace hcg2 : ts.length + 1 ≤ c2 := hcg2
  subst eg2
  have Rg2 := Lib.hid (own_take og2)
  clear og2
  obtain ⟨lA, hIA⟩ : ∃ l, IsF gs ts l := ⟨_, isF_compact (rs := ((gs ++ ts).map (·.1)).mergeSort (fun a b => decide (a ≤ b))) (List.mergeSort_perm _ _) (by have h := List.pairwise_mergeSort (le := fun (a b : Rat) => decide (a ≤ b)) (by intro a b c h1 h2; simp only [decide_eq_true_eq] at *; grind) (by intro a b; simp only [Bool.or_eq_true, decide_eq_true_eq]; grind) ((gs ++ ts).map (·.1)); simpa using h)⟩
  have HIA := Lib.hid hIA
  clear hIA
  have HN := Lib.hid (fun W (h : Below w11.heap.size w11 W) => norm_any gs (some ⟨g1, 0, none⟩) c1 E W ((Rg1.out.below h (Nat.le_refl _)).more h.size) (by omega) HG.out HS.out ((HE.out.below hw11).below h))
  have HAD := Lib.hid (fun W (h : Below w11.heap.size w11 W) => add15_any gs ts (some ⟨g1, 0, none⟩) (some ⟨g2, 0, none⟩) c1 c2 E W ((Rg1.out.below h (Nat.le_refl _)).more h.size) (fun h => by cases h) h1 HG.out HS.out ((Rg2.out.below h (Nat.le_refl _)).more h.size) (fun h => by cases h) h2 HT.out HU.out ((HE.out.below hw11).below h))
  have HTI := Lib.hid (fun W (h : Below w11.heap.size w11 W) => times15_any gs (some ⟨g1, 0, none⟩) c1 k E W ((Rg1.out.below h (Nat.le_refl _)).more h.size) (fun h => by cases h) h1 HG.out HS.out HKG.out ((HE.out.below hw11).below h))
  have HPA := Lib.hid (fun W (h : Below w11.heap.size w11 W) => by
      have q := parts15_any (gs.map bR) (some ⟨g1, 0, none⟩) c1 x.num x.den E W ((Rg1.out.below h (Nat.le_refl _)).more h.size) (by rw [List.length_map]; omega) (in4_good HG.out) (bd2 HXG.out) (bd2n HXG.out) ((HE.out.below hw11).below h)
      rw [List.length_map] at q; exact q)
  have KB : Hid (w11.heap[w.heap.size]? = some (.cells #[.int .i64 k.num, .int .i64 k.den] 24 (0, 0))) := Lib.hid ((hw11.block _ lK).trans K.out)
  have XB : Hid (w11.heap[w.heap.size + 1]? = some (.cells #[.int .i64 x.num, .int .i64 x.den] 24 (0, 0))) := Lib.hid ((hw11.block _ lX).trans X.out)
  have y8 : (gs.length : Int) ≤ (c1 : Int) := by omega
  have y9 : (ts.length : Int) ≤ (c2 : Int) := by omega
  obtain ⟨N9, hN9⟩ : ∃ N9, N9 = (normL gs).map bR := ⟨_, rfl⟩
  obtain ⟨A9, hA9⟩ : ∃ A9, A9 = (withL addO gs ts lA).map bR := ⟨_, rfl⟩
  obtain ⟨T9, hT9⟩ : ∃ T9, T9 = (timesR k gs).map bR := ⟨_, rfl⟩
  have HN9 := Lib.hid hN9
  have HA9 := Lib.hid hA9
  have HT9 := Lib.hid hT9
  clear hN9 hA9 hT9
  have lK11 := lt_of_H KB
  go_loopw [12, 13] (fun v i wr => ∃ (m : Nat) (vs : List Value), m ≤ 2 ∧ i = .int .i64 m ∧ vs.length = 3 * m ∧ Hid (OwnAll w5.heap.size wr (.slice (some ⟨g1, 0, none⟩) (gs.length + 1) c1 :: .slice (some ⟨g2, 0, none⟩) (ts.length + 1) c2 :: vs) ((gs.map bR ++ [(47, 1, 0, 0)]) :: (ts.map bR ++ [(47, 1, 0, 0)]) :: (List.replicate m [N9, A9, T9]).flatten)) ∧ Hid (wr.ownsRow w11.heap.size 22 1 v vs.length (vs.flatMap encS)) ∧ Below w11.heap.size w11 wr) (fun _ i _ => 2 - (intOf i).toNat)
  case atStart => exact ⟨0, [], by omega, rfl, rfl, G1, World.ownsRow_nil _ _ _ _, Below.refl _ _⟩
  case round =>
    clear G1
    obtain ⟨m, vs, hm, rfl, hvl, GA, HO, hy0⟩ := hrel
    have yy0 := hy0.size
    by_cases hlt : m < 2
    · have i1 : (m : Int) < 2 := by omega
      go_wp2_with fail
      refine (HN.out _ (by (repeat' (first | with_reducible exact Below.refl _ _ | with_reducible assumption | with_reducible refine Below.drew ?_ | with_reducible refine below_drewN ?_ _ | with_reducible refine Below.setCell ?_ ?_ _ | with_reducible refine Below.alloc ?_ ?_ _ | omega | (simp; done) | (simp; omega))))).mono ?_
      rintro e w21 ⟨⟨va, rfl, hoa⟩, hb⟩
      have hy21 : Below w11.heap.size w11 w21 := stepH (by (repeat' (first | with_reducible exact Below.refl _ _ | with_reducible assumption | with_reducible refine Below.drew ?_ | with_reducible refine below_drewN ?_ _ | with_reducible refine Below.setCell ?_ ?_ _ | with_reducible refine Below.alloc ?_ ?_ _ | omega | (simp; done) | (simp; omega)))) hb
      have yy21 := hy21.size
      have zs21 := hb.size
      have t21 := hb
      have zt21 := hb.size
      rw [← HN9.out] at hoa
      obtain ⟨Aa, ca, rfl, _, _, _⟩ := Own.rows (fun x _ => encR_len x) hoa
      have HOa := Lib.hid hoa
      have G21 := Lib.hid (GA.out.snoc hb hoa (by omega))
      clear hoa hb
      go_wp2_with fail
      have k0 : w21.cell? ⟨w.heap.size, 0, none⟩ = some (.int .i64 k.num) := cellH (Lib.hid ((hy21.block _ lK11).trans KB.out)) 0
      have k1 : w21.cell? ⟨w.heap.size, 1, none⟩ = some (.int .i64 k.den) := cellH (Lib.hid ((hy21.block _ lK11).trans KB.out)) 1
      go_region_held3 (fun w' => w'.cell? ⟨w.heap.size, 0, none⟩ = some (.int .i64 k.num) ∧ w'.cell? ⟨w.heap.size, 1, none⟩ = some (.int .i64 k.den)) (first | with_reducible exact ⟨k0, k1⟩ | go_keep)
        (first | (go_at_call 10; refine (HAD.out _ (by (repeat' (first | with_reducible exact Below.refl _ _ | with_reducible assumption | with_reducible refine Below.drew ?_ | with_reducible refine below_drewN ?_ _ | with_reducible refine Below.setCell ?_ ?_ _ | with_reducible refine Below.alloc ?_ ?_ _ | omega | (simp; done) | (simp; omega))))).mono ?_; rintro e w22 ⟨⟨vb, er, l9, rfl, hI9, hob⟩, hb⟩; have hy22 : Below w11.heap.size w11 w22 := stepH (by (repeat' (first | with_reducible exact Below.refl _ _ | with_reducible assumption | with_reducible refine Below.drew ?_ | with_reducible refine below_drewN ?_ _ | with_reducible refine Below.setCell ?_ ?_ _ | with_reducible refine Below.alloc ?_ ?_ _ | omega | (simp; done) | (simp; omega)))) hb; have yy22 := hy22.size; have s22 := (by first | exact hb | exact ⟨hb.os, hb.tape, hb.output, hb.size, hb.block⟩ : Below w21.heap.size w21 w22); have zs22 := s22.size; have k0 := cellOf hb (by first | exact k0 | exact cell_drew k0); have k1 := cellOf hb (by first | exact k1 | exact cell_drew k1)))
      have hl9 := IsF.uniq hI9 HIA.out
      rw [hl9, ← HA9.out] at hob
      obtain ⟨Ab, cb, rfl, _, _, _⟩ := Own.rows (fun x _ => encR_len x) hob
      have G22 := Lib.hid (G21.out.snoc s22 hob (by omega))
      have t22 := t21.trans (s22.mono zt21)
      have zt22 := t22.size
      clear hob hb hI9 hl9 HOa s22 G21 GA t21 zt21
      go_wp2_with fail
      go_region_held3 (fun w' => w'.cell? ⟨w.heap.size, 0, none⟩ = some (.int .i64 k.num) ∧ w'.cell? ⟨w.heap.size, 1, none⟩ = some (.int .i64 k.den)) (first | with_reducible exact ⟨k0, k1⟩ | go_keep)
        (first | (go_at_call 11; refine (HTI.out _ (by (repeat' (first | with_reducible exact Below.refl _ _ | with_reducible assumption | with_reducible refine Below.drew ?_ | with_reducible refine below_drewN ?_ _ | with_reducible refine Below.setCell ?_ ?_ _ | with_reducible refine Below.alloc ?_ ?_ _ | omega | (simp; done) | (simp; omega))))).mono ?_; rintro e w23 ⟨⟨vc, er, l9, rfl, hI9, hob⟩, hb⟩; have hy23 : Below w11.heap.size w11 w23 := stepH (by (repeat' (first | with_reducible exact Below.refl _ _ | with_reducible assumption | with_reducible refine Below.drew ?_ | with_reducible refine below_drewN ?_ _ | with_reducible refine Below.setCell ?_ ?_ _ | with_reducible refine Below.alloc ?_ ?_ _ | omega | (simp; done) | (simp; omega)))) hb; have yy23 := hy23.size; have s23 := (by first | exact hb | exact ⟨hb.os, hb.tape, hb.output, hb.size, hb.block⟩ : Below w22.heap.size w22 w23); have zs23 := s23.size; have k0 := cellOf hb (by first | exact k0 | exact cell_drew k0); have k1 := cellOf hb (by first | exact k1 | exact cell_drew k1)))
      rw [times_law hI9 HRG.out h1 p1, ← HT9.out] at hob
      obtain ⟨Ac, cc, rfl, _, _, _⟩ := Own.rows (fun x _ => encR_len x) hob
      have G23 := Lib.hid (G22.out.snoc s23 hob (by omega))
      have t23 := t22.trans (s23.mono zt22)
      have zt23 := t23.size
      clear hob hb hI9 s23 G22 k0 k1 t22 zt22
      have hw23 : Below w5.heap.size w5 w23 := hw11.trans (hy23.mono zzw11)
      go_wp2_with (at_builtin; go_must (refine wpList_append_own _ rfl (.tmp 116) (.tmp 120) 32 rfl w11.heap.size 22 inf2 _ 1 24 Tryd.underlying32 hi2 js0 js1 js2 rfl (by decide) u12 vs.length _ rfl (own_below HO.out (by (repeat' (first | with_reducible exact Below.refl _ _ | with_reducible assumption | with_reducible refine Below.drew ?_ | with_reducible refine below_drewN ?_ _ | with_reducible refine Below.setCell ?_ ?_ _ | with_reducible refine Below.alloc ?_ ?_ _ | omega | (simp; done) | (simp; omega))))) ⟨w23.heap.size, 0, none⟩ 3 3 [.slice Aa N9.length ca, .slice Ab A9.length cb, .slice Ac T9.length cc] rfl rfl (World.news_of_block (cs := #[.slice Aa N9.length ca, .slice Ab A9.length cb, .slice Ac T9.length cc]) (blk_new rfl)) (by simp [Value.oneCell']) (by unfold maxLen; omega) (by omega) (by simp; omega) ?_); intro v24 w24 hown9 hgrow9 _)
      go_roundw
      case rel =>
        refine ⟨m + 1, vs ++ [.slice Aa N9.length ca, .slice Ab A9.length cb, .slice Ac T9.length cc], by omega, by go_num, by simp; omega, ?_, ?_, ?_⟩
        · have hq : Below w23.heap.size w23 (w23.alloc (.cells #[.slice Aa N9.length ca, .slice Ab A9.length cb, .slice Ac T9.length cc] 22)) := by (repeat' (first | with_reducible exact Below.refl _ _ | with_reducible assumption | with_reducible refine Below.drew ?_ | with_reducible refine below_drewN ?_ _ | with_reducible refine Below.setCell ?_ ?_ _ | with_reducible refine Below.alloc ?_ ?_ _ | omega | (simp; done) | (simp; omega)))
          have GB := G23.out.below hq
          have HB := own_below HO.out (t23.trans (hq.mono zt23))
          have q := GB.keep (OnlyL.grown (OnlyL.refl u12.ownBlock.toList _) hgrow9 (fun g e => .inl (by rw [e]; simp))) (GB.types HB (by decide))
          show OwnAll _ _ _ _
          have e1 : List.replicate (m + 1) [N9, A9, T9] = List.replicate m [N9, A9, T9] ++ [[N9, A9, T9]] := List.replicate_succ'
          rw [e1, List.flatten_append]
          simpa using q
        · show World.ownsRow _ _ _ _ _ _ _
          rw [List.flatMap_append, List.length_append]; exact hown9
        · exact Below.grown (by (repeat' (first | with_reducible exact Below.refl _ _ | with_reducible assumption | with_reducible refine Below.drew ?_ | with_reducible refine below_drewN ?_ _ | with_reducible refine Below.setCell ?_ ?_ _ | with_reducible refine Below.alloc ?_ ?_ _ | omega | (simp; done) | (simp; omega)))) hgrow9 (by simp; omega) (fun g hg => (HO.out.lt g hg).1)
      case measure => simp [intOf]; omega
    · obtain rfl : m = 2 := by omega
      obtain ⟨a0, b0, d0, a1, b1, d1, rfl⟩ : ∃ a0 b0 d0 a1 b1 d1, vs = [a0, b0, d0, a1, b1, d1] := by match vs, hvl with | [a, b, c, d, e, f], _ => exact ⟨a, b, c, d, e, f, rfl⟩
      have hG6 : Own encS 1 22 w11.heap.size wr u12 [a0, b0, d0, a1, b1, d1] := HO.out
      obtain ⟨gh, ch, egh, hbgh, hcgh, _, _⟩ := own_cellsS (fun x _ => encS_len x) (by simp) hG6
      replace egh : u12 = .slice (some ⟨gh, 0, none⟩) 6 ch := egh
      subst egh
      have HG6 := Lib.hid hG6
      clear hG6 hvl
      have GA8 : Hid (OwnAll w5.heap.size wr [.slice (some ⟨g1, 0, none⟩) (gs.length + 1) c1, .slice (some ⟨g2, 0, none⟩) (ts.length + 1) c2, a0, b0, d0, a1, b1, d1] [gs.map bR ++ [(47, 1, 0, 0)], ts.map bR ++ [(47, 1, 0, 0)], N9, A9, T9, N9, A9, T9]) := GA
      clear GA HO
      have hwr : Below w5.heap.size w5 wr := hw11.trans (hy0.mono zzw11)
      go_wp2_with fail
      have x0 : wr.cell? ⟨w.heap.size + 1, 0, none⟩ = some (.int .i64 x.num) := cellH (Lib.hid ((hy0.block _ (lt_of_H XB)).trans XB.out)) 0
      have x1 : wr.cell? ⟨w.heap.size + 1, 1, none⟩ = some (.int .i64 x.den) := cellH (Lib.hid ((hy0.block _ (lt_of_H XB)).trans XB.out)) 1
      go_region_held3 (fun w' => w'.cell? ⟨w.heap.size + 1, 0, none⟩ = some (.int .i64 x.num) ∧ w'.cell? ⟨w.heap.size + 1, 1, none⟩ = some (.int .i64 x.den)) (first | with_reducible exact ⟨x0, x1⟩ | go_keep)
        (first | (go_at_call 12; refine (HPA.out _ (by (repeat' (first | with_reducible exact Below.refl _ _ | with_reducible assumption | with_reducible refine Below.drew ?_ | with_reducible refine below_drewN ?_ _ | with_reducible refine Below.setCell ?_ ?_ _ | with_reducible refine Below.alloc ?_ ?_ _ | omega | (simp; done) | (simp; omega))))).mono ?_; rintro e w31 ⟨⟨vp, erp, rfl, hp⟩, hb⟩; have hy31 : Below w11.heap.size w11 w31 := stepH (by (repeat' (first | with_reducible exact Below.refl _ _ | with_reducible assumption | with_reducible refine Below.drew ?_ | with_reducible refine below_drewN ?_ _ | with_reducible refine Below.setCell ?_ ?_ _ | with_reducible refine Below.alloc ?_ ?_ _ | omega | (simp; done) | (simp; omega)))) hb; have yy31 := hy31.size; have s31 := (by first | exact hb | exact ⟨hb.os, hb.tape, hb.output, hb.size, hb.block⟩ : Below wr.heap.size wr w31); have zs31 := s31.size; have x0 := cellOf hb (by first | exact x0 | exact cell_drew x0); have x1 := cellOf hb (by first | exact x1 | exact cell_drew x1)))
      have op := partsV_R HS.out HXG.out hp
      obtain ⟨Ap, cp, rfl, _, _, _⟩ := Own.rows (fun x _ => encF_len x) op
      clear hp hb
      have HOp : Hid (Own encF 2 24 wr.heap.size w31 (.slice Ap ((partsR gs x).map fq).length cp) ((partsR gs x).map fq)) := Lib.hid (ownsRow_base op (by first | exact Nat.le_refl _ | simp))
      clear op
      go_wp2_with fail
      go_region_held3 (fun w' => w'.cell? ⟨w.heap.size + 1, 0, none⟩ = some (.int .i64 x.num) ∧ w'.cell? ⟨w.heap.size + 1, 1, none⟩ = some (.int .i64 x.den)) (first | with_reducible exact ⟨x0, x1⟩ | go_keep)
        (first | (go_at_call 12; refine (HPA.out _ (by (repeat' (first | with_reducible exact Below.refl _ _ | with_reducible assumption | with_reducible refine Below.drew ?_ | with_reducible refine below_drewN ?_ _ | with_reducible refine Below.setCell ?_ ?_ _ | with_reducible refine Below.alloc ?_ ?_ _ | omega | (simp; done) | (simp; omega))))).mono ?_; rintro e w32 ⟨⟨vq, erq, rfl, hp⟩, hb⟩; have hy32 : Below w11.heap.size w11 w32 := stepH (by (repeat' (first | with_reducible exact Below.refl _ _ | with_reducible assumption | with_reducible refine Below.drew ?_ | with_reducible refine below_drewN ?_ _ | with_reducible refine Below.setCell ?_ ?_ _ | with_reducible refine Below.alloc ?_ ?_ _ | omega | (simp; done) | (simp; omega)))) hb; have yy32 := hy32.size; have s32 := (by first | exact hb | exact ⟨hb.os, hb.tape, hb.output, hb.size, hb.block⟩ : Below w31.heap.size w31 w32); have zs32 := s32.size; have x0 := cellOf hb (by first | exact x0 | exact cell_drew x0); have x1 := cellOf hb (by first | exact x1 | exact cell_drew x1)))
      have oq := partsV_R HS.out HXG.out hp
      obtain ⟨Aq, cq, rfl, _, _, _⟩ := Own.rows (fun x _ => encF_len x) oq
      clear hp hb
      have HOq : Hid (Own encF 2 24 w31.heap.size w32 (.slice Aq ((partsR gs x).map fq).length cq) ((partsR gs x).map fq)) := Lib.hid (ownsRow_base oq (by first | exact Nat.le_refl _ | simp))
      clear oq
      have s33 := s31.trans (s32.mono zs31)
      have HPQ : Hid (∀ g, Value.ownBlock (.slice Ap (partsR gs x).length cp) = some g → g < w31.heap.size) := Lib.hid (fun g e => (HOp.out.lt g (by rw [List.length_map]; exact e)).2)
      have hw32 : Below w5.heap.size w5 w32 := hwr.trans (s33.mono hwr.size)
      have zzw32 := hw32.size
      replace HOp := Lib.hid (HOp.out.below s32)
      have GA9 := Lib.hid (GA8.out.below s33)
      have HG9 := Lib.hid (HG6.out.below s33)
      clear GA8 HG6 x0 x1
      have R1 := Lib.hid ((Rg1.out.below hy32 (Nat.le_refl _)).more yy32)
      have R2 := Lib.hid ((Rg2.out.below hy32 (Nat.le_refl _)).more yy32)
      have S1 := Lib.hid ((HL5.out.below hw32 (Nat.le_refl _)).more zzw32)
      have S2 := Lib.hid ((HR5.out.below hw32 (Nat.le_refl _)).more zzw32)
      have og1 := GA9.out.own 0 _ _ rfl rfl
      have og2 := GA9.out.own 1 _ _ rfl rfl
      obtain ⟨m0, _, _, _, _⟩ := own_cells4 (k := gs.length) (b := (47, 1, 0, 0)) og1 (by rw [List.getElem?_append_right (by rw [List.length_map]; exact Nat.le_refl _), List.length_map, Nat.sub_self]; rfl)
      replace m0 : w32.cell? ⟨g1, gs.length * 4, none⟩ = some (.int .i64 47) := m0
      obtain ⟨n0, _, _, _, _⟩ := own_cells4 (k := ts.length) (b := (47, 1, 0, 0)) og2 (by rw [List.getElem?_append_right (by rw [List.length_map]; exact Nat.le_refl _), List.length_map, Nat.sub_self]; rfl)
      replace n0 : w32.cell? ⟨g2, ts.length * 4, none⟩ = some (.int .i64 47) := n0
      have HSB1 := Lib.hid (fun W (h : Below w32.heap.size w32 W) => sameBr_good gs (some ⟨g1, 0, none⟩) A c1 c W ((R1.out.below h (Nat.le_refl _)).more h.size) ((S1.out.below h (Nat.le_refl _)).more h.size) (by omega))
      have HSB2 := Lib.hid (fun W (h : Below w32.heap.size w32 W) => sameBr_good ts (some ⟨g2, 0, none⟩) B c2 d W ((R2.out.below h (Nat.le_refl _)).more h.size) ((S2.out.below h (Nat.le_refl _)).more h.size) (by omega))
      have i5 : (gs.length : Int) < (gs.length : Int) + 1 := by omega
      have i6 : (ts.length : Int) < (ts.length : Int) + 1 := by omega
      have i7 : Below w32.heap.size w32 w32 := Below.refl _ _
      clear og1 og2 R1 R2
      go_wp2_with fail
      refine (HSB1.out _ (by (repeat' (first | with_reducible exact Below.refl _ _ | with_reducible assumption | with_reducible refine Below.drew ?_ | with_reducible refine below_drewN ?_ _ | with_reducible refine Below.setCell ?_ ?_ _ | with_reducible refine Below.alloc ?_ ?_ _ | omega | (simp; done) | (simp; omega))))).mono ?_
      rintro e w34 ⟨rfl, hb⟩
      have t34 : Below w32.heap.size w32 w34 := hb
      have zt34 := t34.size
      replace n0 := cellOf hb n0
      replace m0 := cellOf hb m0
      clear hb
      go_wp2_with fail
      refine (HSB2.out _ (by (repeat' (first | with_reducible exact Below.refl _ _ | with_reducible assumption | with_reducible refine Below.drew ?_ | with_reducible refine below_drewN ?_ _ | with_reducible refine Below.setCell ?_ ?_ _ | with_reducible refine Below.alloc ?_ ?_ _ | omega | (simp; done) | (simp; omega))))).mono ?_
      rintro e w35 ⟨rfl, hb⟩
      have t35 : Below w32.heap.size w32 w35 := stepH t34 hb
      have zt35 := t35.size
      have hw35 : Below w5.heap.size w5 w35 := hw32.trans (t35.mono zzw32)
      have zz35 := hw35.size
      replace HOp := Lib.hid (HOp.out.below t35)
      replace HOq := Lib.hid (HOq.out.below t35)
      replace GA9 := Lib.hid (GA9.out.below t35)
      replace HG9 := Lib.hid (HG9.out.below t35)
      clear hb m0 n0 t34 t35 zt34 zt35 HSB1 HSB2 i5 i6 i7
      obtain ⟨LB, hLB⟩ : ∃ LB : List Nat, LB = ([g1, g2, gh] ++ a0.ownBlock.toList ++ b0.ownBlock.toList ++ d0.ownBlock.toList ++ []) := ⟨_, rfl⟩
      have HLB := Lib.hid hLB
      clear hLB
      go_wp2_with fail
      refine (spoil_any _ _ w5.heap.size _ (GA9.out.own 0 _ _ rfl rfl) (by rw [List.length_append, List.length_map]; simp; omega)).mono ?_
      rintro e w36 ⟨⟨rfl, _⟩, ho⟩
      have u36 : Hid (OnlyL LB w35 w36) := Lib.hid (ho.wide (fun k hk => by rw [HLB.out]; simp [Value.ownBlock] at hk ⊢; exact .inl hk))
      have two6 := own_only (GA9.out.own 1 _ _ rfl rfl) ho (fun g e hm => GA9.out.apart 0 1 _ _ g (by decide) rfl rfl (by simpa using hm) e)
      have HTW := Lib.hid two6
      have v36 : Hid (OnlyL [g1, g2] w35 w36) := Lib.hid (ho.wide (fun k hk => by simp [Value.ownBlock] at hk ⊢; exact .inl hk))
      clear ho two6
      go_wp2_with fail
      refine (spoil_any _ _ w5.heap.size _ HTW.out (by rw [List.length_append, List.length_map]; simp; omega)).mono ?_
      rintro e w37 ⟨⟨rfl, _⟩, ho⟩
      have u37 : Hid (OnlyL LB w35 w37) := Lib.hid (u36.out.trans (ho.wide (fun k hk => by rw [HLB.out]; simp [Value.ownBlock] at hk ⊢; exact .inr (.inl hk))))
      have v37 : Hid (OnlyL [g1, g2] w35 w37) := Lib.hid (v36.out.trans (ho.wide (fun k hk => by simp [Value.ownBlock] at hk ⊢; exact .inr hk)))
      clear ho HTW u36 v36
      have HGT := Lib.hid (fun g (e : g = gh) (i : Nat) (v : Value) (hv : [Value.slice (some ⟨g1, 0, none⟩) (gs.length + 1) c1, .slice (some ⟨g2, 0, none⟩) (ts.length + 1) c2, a0, b0, d0, a1, b1, d1][i]? = some v) => GA9.out.types HG9.out (by decide) g (by rw [e]; simp [Value.ownBlock]) i v hv)
      have hB6 : Hid (∀ g, g ∈ LB → g = g1 ∨ g = g2 ∨ g = gh ∨ a0.ownBlock = some g ∨ b0.ownBlock = some g ∨ d0.ownBlock = some g) := Lib.hid (fun g hg => by rw [HLB.out] at hg; simpa [List.mem_append, or_assoc] using hg)
      have HG7 : Hid (Own encS 1 22 w11.heap.size w37 (.slice (some ⟨gh, 0, none⟩) 6 ch) [a0, b0, d0, a1, b1, d1]) := Lib.hid (own_only HG9.out v37.out (fun g e hm => by
        have hg : g = gh := by simpa [Value.ownBlock] using e.symm
        simp only [List.mem_cons, List.not_mem_nil, or_false] at hm
        rcases hm with rfl | rfl
        · exact HGT.out _ hg 0 _ rfl rfl
        · exact HGT.out _ hg 1 _ rfl rfl))
      have HV7 : Hid (∀ (j : Nat) (v : Value) (l : List BI), 0 ≤ j → [a0, b0, d0][j]? = some v → [N9, A9, T9][j]? = some l → Own encR 4 31 w5.heap.size w37 v l) := Lib.hid (fun j v l _ hv hl => own_only (GA9.out.own (j + 2) v l (third hv).1 (third hl).1) v37.out (fun g e hm => by
        simp only [List.mem_cons, List.not_mem_nil, or_false] at hm
        rcases hm with rfl | rfl
        · exact GA9.out.apart 0 (j + 2) _ v _ (by omega) rfl (third hv).1 rfl e
        · exact GA9.out.apart 1 (j + 2) _ v _ (by omega) rfl (third hv).1 rfl e))
      have HLN : Hid (∀ (j : Nat) (l : List BI), [N9, A9, T9][j]? = some l → l.length ≤ 1000) := Lib.hid (fun j l h => by
        match j, h with
        | 0, h => cases h; rw [HN9.out, List.length_map]; exact Nat.le_trans (normL_len1 gs) (by omega)
        | 1, h => cases h; rw [HA9.out, List.length_map]; exact Nat.le_trans (withL_len _ _ _ _) (by decide)
        | 2, h => cases h; rw [HT9.out, List.length_map]; exact Nat.le_trans (timesR_len k gs) (by omega)
        | n + 3, h => simp at h)
      clear v37
      go_wp2_with fail
      go_loopw [25] (fun i wr => ∃ (m : Nat) (vs : List Value), m ≤ 3 ∧ i = .int .i64 m ∧ Hid (vs.length = 6 ∧ ∀ j, m ≤ j → vs[j]? = [a0, b0, d0, a1, b1, d1][j]?) ∧ Hid (Own encS 1 22 w11.heap.size wr (.slice (some ⟨gh, 0, none⟩) 6 ch) vs) ∧ Hid (OnlyL LB w35 wr) ∧ Hid (∀ (j : Nat) (v : Value) (l : List BI), m ≤ j → [a0, b0, d0][j]? = some v → [N9, A9, T9][j]? = some l → Own encR 4 31 w5.heap.size wr v l)) (fun i _ => 3 - (intOf i).toNat)
      case atStart => exact ⟨0, _, by omega, rfl, Lib.hid ⟨rfl, fun _ _ => rfl⟩, HG7, u37, HV7⟩
      case round =>
        clear HG7 u37 HV7
        obtain ⟨m, vs, hm, rfl, hvs, HG, HOL, HV⟩ := hrel
        by_cases hlt : m < 3
        · have i1 : (m : Int) < 3 := by omega
          have i2 : (m : Int) < 6 := by omega
          obtain ⟨v, hv⟩ : ∃ v, [a0, b0, d0][m]? = some v := ⟨_, List.getElem?_eq_getElem (by simp; omega)⟩
          obtain ⟨l, hl⟩ : ∃ l, [N9, A9, T9][m]? = some l := ⟨_, List.getElem?_eq_getElem (by simp; omega)⟩
          obtain ⟨hv8, hv6⟩ := third (p := Value.slice (some ⟨g1, 0, none⟩) (gs.length + 1) c1) (q := Value.slice (some ⟨g2, 0, none⟩) (ts.length + 1) c2) (a1 := a1) (b1 := b1) (d1 := d1) hv
          have hov := HV.out m v l (Nat.le_refl _) hv hl
          obtain ⟨c0, cf⟩ := own_head HG.out ((hvs.out.2 m (Nat.le_refl _)).trans hv6)
          have hll := HLN.out m l hl
          have HOV := Lib.hid hov
          have HV8 := Lib.hid hv8
          have HV6 := Lib.hid hv6
          have HVM := Lib.hid hv
          have HLM := Lib.hid hl
          obtain ⟨Av, cv, rfl, _, _, _⟩ := Own.rows (fun x _ => encR_len x) hov
          clear hov hv8 hv6 hv hl
          go_wp2_with fail
          refine (spoil_any l _ w5.heap.size _ HOV.out (by omega)).mono ?_
          rintro e w41 ⟨⟨rfl, hsp⟩, ho⟩
          have HSP := Lib.hid hsp
          have HOA := Lib.hid ho
          have HG41 := Lib.hid (own_only HG.out ho (fun g e hm => HGT.out g (by simpa [Value.ownBlock] using e.symm) _ _ HV8.out (by simpa using hm)))
          obtain ⟨c41, f41⟩ := own_head HG41.out ((hvs.out.2 m (Nat.le_refl _)).trans HV6.out)
          clear hsp ho c0 cf
          have hln : Hid (World.ownsRow w41 w5.heap.size 31 4 (.slice Av l.length cv) l.length ((l.map spoilt).flatMap encR)) := by have h := HSP.out; unfold Own at h; rw [List.length_map] at h; exact Lib.hid h
          have hz41 : w5.heap.size ≤ w41.heap.size := by have := HOA.out.size; have := HOL.out.size; omega
          have hgh41 : gh < w41.heap.size := (HG41.out.lt gh rfl).2
          have HNV : Hid ((some gh : Option Nat) ≠ (Value.slice Av l.length cv).ownBlock) := Lib.hid (fun e => HGT.out gh rfl _ _ HV8.out e.symm)
          go_wp2_with (at_builtin; go_must (refine wpList_append_own _ rfl (.tmp 192) (.tmp 194) 22 rfl w5.heap.size 31 inf0 _ 4 32 Tryd.underlying22 hi jz0 jz1 jz2 rfl (by decide) (.slice Av l.length cv) l.length _ rfl (own_below hln.out (by (repeat' (first | with_reducible exact Below.refl _ _ | with_reducible assumption | with_reducible refine Below.drew ?_ | with_reducible refine below_drewN ?_ _ | with_reducible refine Below.setCell ?_ ?_ _ | with_reducible refine Below.alloc ?_ ?_ _ | omega | (simp; done) | (simp; omega))))) ⟨w41.heap.size, 0, none⟩ 1 1 [.int .i64 0, .int .i64 0, .int .i64 0, .int .i64 0] rfl rfl (World.news_of_block (cs := #[.int .i64 0, .int .i64 0, .int .i64 0, .int .i64 0]) (blk_new rfl)) (by simp [Value.oneCell']) (by unfold maxLen; omega) (by omega) (by simp; omega) ?_); intro v42 w42 hown9 hgrow9 _; have hgb : w42.heap[gh]? = w41.heap[gh]? := (hgrow9.block gh (by simp; omega) HNV.out).trans (Below.heap_alloc _ _ _ hgh41); have c42 : w42.cell? ⟨gh, m, none⟩ = some (.slice Av l.length cv) := (World.cell?_of_block (a := ⟨gh, m, none⟩) hgb).trans c41; have f42 : ∀ o, w42.frozen? ⟨gh, o, none⟩ = false := fun o => (World.frozen?_of_block (a := ⟨gh, o, none⟩) hgb).trans (f41 o); obtain ⟨A42, k42, rfl⟩ := own_form hown9)
          go_roundw
          case rel =>
            have ho42 : OnlyL (Value.slice Av l.length cv).ownBlock.toList wr w42 := (HOA.out.alloc _).grown hgrow9 (fun k e => .inl (by rw [e]; simp))
            have hG2 : Own encS 1 22 w11.heap.size w42 (.slice (some ⟨gh, 0, none⟩) 6 ch) vs := own_only HG.out ho42 (fun g e hm => HGT.out g (by simpa [Value.ownBlock] using e.symm) _ _ HV8.out (by simpa using hm))
            have hG3 := own_put (k := m) (j := 0) (u := (.slice A42 (l.length + 1) k42)) (b' := (.slice A42 (l.length + 1) k42)) encS_len hG2 ((hvs.out.2 m (Nat.le_refl _)).trans HV6.out) (by decide) rfl
            rw [Nat.mul_one, Nat.add_zero] at hG3
            have ho43 : OnlyL ((Value.slice Av l.length cv).ownBlock.toList ++ [gh]) wr (w42.setCell ⟨gh, m, none⟩ (.slice A42 (l.length + 1) k42)) := (ho42.wide (fun k hk => List.mem_append.2 (.inl hk))).setCell (.inl (by simp)) _
            refine ⟨m + 1, vs.set m (.slice A42 (l.length + 1) k42), by omega, by go_num, Lib.hid ⟨by rw [List.length_set]; exact hvs.out.1, fun j hj => by rw [List.getElem?_set_ne (by omega)]; exact hvs.out.2 j (by omega)⟩, Lib.hid hG3, Lib.hid (HOL.out.trans (ho43.wide (fun k hk => ?_))), Lib.hid (fun j u q hj hu hq => ?_)⟩
            · rw [HLB.out]
              rcases List.mem_append.1 hk with h | h
              · exact mem3 HVM.out h
              · rw [List.mem_singleton.1 h]; simp
            · refine own_only (HV.out j u q (by omega) hu hq) ho43 (fun g e hm => ?_)
              rcases List.mem_append.1 hm with h | h
              · exact GA9.out.apart (m + 2) (j + 2) _ u g (by omega) HV8.out (third hu).1 (by simpa using h) e
              · rw [List.mem_singleton.1 h] at e; exact HGT.out gh rfl _ u (third hu).1 e
          case measure => simp [intOf]; omega
        · obtain rfl : m = 3 := by omega
          have HG8 : Hid (∃ vs : List Value, (∀ j, 3 ≤ j → vs[j]? = [a0, b0, d0, a1, b1, d1][j]?) ∧ Own encS 1 22 w11.heap.size wr (.slice (some ⟨gh, 0, none⟩) 6 ch) vs) := Lib.hid ⟨vs, hvs.out.2, HG.out⟩
          clear HG hvs HV
          have hpb : (partsR gs x).length ≤ 32 := Nat.le_trans (partsR_len gs x) h1
          have hop : Hid (World.ownsRow w35 w11.heap.size 24 2 (.slice Ap (partsR gs x).length cp) (partsR gs x).length (((partsR gs x).map fq).flatMap encF)) := by have h := HOp.out; unfold Own at h; rw [List.length_map] at h; exact Lib.hid (ownsRow_base h (by omega))
          have hoq : Hid (World.ownsRow w35 w11.heap.size 24 2 (.slice Aq (partsR gs x).length cq) (partsR gs x).length (((partsR gs x).map fq).flatMap encF)) := by have h := HOq.out; unfold Own at h; rw [List.length_map] at h; exact Lib.hid (ownsRow_base h (by omega))
          have hpq : Hid (∀ g, Value.ownBlock (.slice Ap (partsR gs x).length cp) = some g → Value.ownBlock (.slice Aq (partsR gs x).length cq) ≠ some g) := Lib.hid (fun g e1 e2 => by have h1 := HPQ.out g e1; have h2 := (HOq.out.lt g (by rw [List.length_map]; exact e2)).1; omega)
          have HNF : Hid (∀ (v : Value) (n : Nat) (xs : List Value), World.ownsRow w35 w11.heap.size 24 2 v n xs → ∀ g, v.ownBlock = some g → g ∉ LB) := Lib.hid (fun v n xs h g e hm => by
            have hBr : ∀ (i : Nat) (u : Value), [Value.slice (some ⟨g1, 0, none⟩) (gs.length + 1) c1, .slice (some ⟨g2, 0, none⟩) (ts.length + 1) c2, a0, b0, d0, a1, b1, d1][i]? = some u → u.ownBlock ≠ some g := GA9.out.types h (by decide) g (by rw [e]; simp)
            rcases hB6.out g hm with rfl | rfl | rfl | h1 | h1 | h1
            · exact hBr 0 _ rfl rfl
            · exact hBr 1 _ rfl rfl
            · exact own_types h HG9.out (by decide) _ e rfl
            · exact hBr 2 _ rfl h1
            · exact hBr 3 _ rfl h1
            · exact hBr 4 _ rfl h1)
          have HP8 := Lib.hid (own_only hop.out HOL.out (fun g e => HNF.out _ _ _ hop.out g e))
          have HQ8 := Lib.hid (own_only hoq.out HOL.out (fun g e => HNF.out _ _ _ hoq.out g e))
          clear HOp HOq
          go_wp2_with fail
          obtain ⟨wq, rfl⟩ : ∃ wq : World, wq = wr := ⟨_, rfl⟩
          go_loopw [26] (fun i wz => ∃ (m : Nat) (pl : List (Int × Int)), m ≤ (partsR gs x).length ∧ i = .int .i64 m ∧ pl.length = (partsR gs x).length ∧ Hid (Own encF 2 24 w11.heap.size wz (.slice Ap (partsR gs x).length cp) pl) ∧ Hid (OnlyL (Value.ownBlock (.slice Ap (partsR gs x).length cp)).toList wq wz)) (fun i _ => (partsR gs x).length - (intOf i).toNat)
          case atStart => exact ⟨0, (partsR gs x).map fq, Nat.zero_le _, rfl, List.length_map _, (by show Own _ _ _ _ _ _ _; unfold Own; rw [List.length_map]; exact HP8.out), Lib.hid (OnlyL.refl _ _)⟩
          case round =>
            obtain ⟨m, pl, hm, rfl, hpl, HP, HOZ⟩ := hrel
            by_cases hlt : m < (partsR gs x).length
            · have i1 : (m : Int) < ((partsR gs x).length : Int) := by omega
              obtain ⟨⟨pn, pd⟩, hpx⟩ : ∃ p, pl[m]? = some p := ⟨pl[m]'(by omega), List.getElem?_eq_getElem _⟩
              have HPX := Lib.hid hpx
              obtain ⟨gp, cp2, egp, _, _, _, _⟩ := own_cellsS (fun x _ => encF_len x) (fun e => by rw [e] at hpx; cases hpx) HP.out
              injection egp with egp _ _
              subst egp
              obtain ⟨c0, _, f0⟩ := own_cells2 HP.out hpx
              replace c0 : wr.cell? ⟨gp, m * 2, none⟩ = some (.int .i64 pn) := c0
              clear hpx
              have HPL := Lib.hid hpl
              clear hpl
              go_wp2_with fail
              go_roundw
              case rel =>
                have hP2 := own_put (k := m) (j := 0) (u := .int .i64 (bits BinOp.xor IntKind.i64 pn 1)) (b' := (bits BinOp.xor IntKind.i64 pn 1, pd)) encF_len HP.out HPX.out (by decide) rfl
                refine ⟨m + 1, pl.set m (bits BinOp.xor IntKind.i64 pn 1, pd), by omega, by go_num, by rw [List.length_set]; exact HPL.out, Lib.hid hP2, Lib.hid (HOZ.out.setCell (.inl (by simp [Value.ownBlock])) _)⟩
              case measure => simp [intOf]; omega
            · clear HP hpl
              obtain rfl : m = (partsR gs x).length := by omega
              clear hlt hm
              go_upto_region 28 with fail
              have HNB : Hid (∀ (j : Nat) (u : Value), 5 ≤ j → [Value.slice (some ⟨g1, 0, none⟩) (gs.length + 1) c1, .slice (some ⟨g2, 0, none⟩) (ts.length + 1) c2, a0, b0, d0, a1, b1, d1][j]? = some u → ∀ g, u.ownBlock = some g → g ∉ LB) := Lib.hid (fun j u hj hu g e hm => by
                rcases hB6.out g hm with rfl | rfl | rfl | h1 | h1 | h1
                · exact GA9.out.apart 0 j _ u _ (by omega) rfl hu rfl e
                · exact GA9.out.apart 1 j _ u _ (by omega) rfl hu rfl e
                · exact HGT.out _ rfl j u hu e
                · exact GA9.out.apart 2 j _ u _ (by omega) rfl hu h1 e
                · exact GA9.out.apart 3 j _ u _ (by omega) rfl hu h1 e
                · exact GA9.out.apart 4 j _ u _ (by omega) rfl hu h1 e)
              have HPT : Hid (∀ (e2 z2 b2 n2 : Nat) (u : Value) (xs : List Value), World.ownsRow wq b2 e2 z2 u n2 xs → e2 ≠ 24 → ∀ g, u.ownBlock = some g → g ∉ (Value.ownBlock (.slice Ap (partsR gs x).length cp)).toList) := Lib.hid (fun e2 z2 b2 n2 u xs h hne g e hm => own_types h HP8.out hne g e (by simpa using hm))
              have ka1 := own_only (GA9.out.own 5 _ _ rfl rfl) HOL.out (HNB.out 5 _ (by decide) rfl)
              have ha1 : Hid (Own encR 4 31 w5.heap.size wr a1 N9) := Lib.hid (own_only ka1 HOZ.out (HPT.out _ _ _ _ _ _ ka1 (by decide)))
              clear ka1
              have kb1 := own_only (GA9.out.own 6 _ _ rfl rfl) HOL.out (HNB.out 6 _ (by decide) rfl)
              have hb1 : Hid (Own encR 4 31 w5.heap.size wr b1 A9) := Lib.hid (own_only kb1 HOZ.out (HPT.out _ _ _ _ _ _ kb1 (by decide)))
              clear kb1
              have kd1 := own_only (GA9.out.own 7 _ _ rfl rfl) HOL.out (HNB.out 7 _ (by decide) rfl)
              have hd1 : Hid (Own encR 4 31 w5.heap.size wr d1 T9) := Lib.hid (own_only kd1 HOZ.out (HPT.out _ _ _ _ _ _ kd1 (by decide)))
              clear kd1
              have HPQ2 : Hid (World.ownsRow wr w11.heap.size 24 2 (.slice Aq (partsR gs x).length cq) (partsR gs x).length (((partsR gs x).map fq).flatMap encF)) := Lib.hid (own_only HQ8.out HOZ.out (fun g e hm => hpq.out g (by simpa using hm) e))
              obtain ⟨vs, hvs, hgv⟩ := HG8.out
              have HGF : Hid (Own encS 1 22 w11.heap.size wr (.slice (some ⟨gh, 0, none⟩) 6 ch) vs) := Lib.hid (own_only hgv HOZ.out (HPT.out _ _ _ _ _ _ hgv (by decide)))
              have c3 : wr.cell? ⟨gh, 3, none⟩ = some a1 := (own_head HGF.out (hvs 3 (by decide))).1
              have c4 : wr.cell? ⟨gh, 4, none⟩ = some b1 := (own_head HGF.out (hvs 4 (by decide))).1
              have c5 : wr.cell? ⟨gh, 5, none⟩ = some d1 := (own_head HGF.out (hvs 5 (by decide))).1
              have C3 := Lib.hid c3
              have C4 := Lib.hid c4
              have C5 := Lib.hid c5
              have lgh : gh < wr.heap.size := (HGF.out.lt gh rfl).2
              clear hgv hvs HG8 HGF c3 c4 c5
              have hge : ∀ k ∈ LB, w5.heap.size ≤ k := fun g hm => by
                rcases hB6.out g hm with rfl | rfl | rfl | h1 | h1 | h1
                · exact hbg1
                · exact hbg2
                · omega
                · exact ((GA9.out.own 2 _ _ rfl rfl).lt g h1).1
                · exact ((GA9.out.own 3 _ _ rfl rfl).lt g h1).1
                · exact ((GA9.out.own 4 _ _ rfl rfl).lt g h1).1
              have hF1 : Below w5.heap.size w5 wq := hw35.trans (HOL.out.below zz35 hge)
              have hF : Below w5.heap.size w5 wr := hF1.trans (HOZ.out.below hF1.size (fun g hm => by have := (HP8.out.lt g (by simpa using hm)).1; omega))
              have zF := hF.size
              clear HOL HOZ HNB HPT hge hF1 HP8 HQ8 GA9 HG9 HGT hB6 HLB hop hoq hpq HNF HLN HPQ
              obtain ⟨Aa1, ca1, rfl, _, _, ra1⟩ := Own.rows (fun x _ => encR_len x) ha1.out
              have Ra1 := Lib.hid ra1
              clear ra1 ha1
              obtain ⟨Ab1, cb1, rfl, _, _, rb1⟩ := Own.rows (fun x _ => encR_len x) hb1.out
              have Rb1 := Lib.hid rb1
              clear rb1 hb1
              obtain ⟨Ad1, cd1, rfl, _, _, rd1⟩ := Own.rows (fun x _ => encR_len x) hd1.out
              have Rd1 := Lib.hid rd1
              clear rd1 hd1
              have hQ9 : Own encF 2 24 w11.heap.size wr (.slice Aq (partsR gs x).length cq) ((partsR gs x).map fq) := by unfold Own; rw [List.length_map]; exact HPQ2.out
              obtain ⟨A9q, c9q, eq9, _, _, rq⟩ := Own.rows (fun x _ => encF_len x) hQ9
              injection eq9 with eq9 _ _
              subst eq9
              have RQ := Lib.hid rq
              clear rq hQ9 HPQ2
              have KF : Hid (wr.heap[w.heap.size]? = some (.cells #[.int .i64 k.num, .int .i64 k.den] 24 (0, 0))) := Lib.hid ((hF.block _ lK).trans K.out)
              have XF : Hid (wr.heap[w.heap.size + 1]? = some (.cells #[.int .i64 x.num, .int .i64 x.den] 24 (0, 0))) := Lib.hid ((hF.block _ lX).trans X.out)
              have HRP := Lib.hid (fun W (h : Below w5.heap.size w5 W) => refParts15_any gs A c x W ((HL5.out.below h (Nat.le_refl _)).more h.size) h1 HG.out HS.out HXG.out)
              have HRA := Lib.hid (fun W (h : Below w5.heap.size w5 W) => refAdd15_any gs ts A B c d W ((HL5.out.below h (Nat.le_refl _)).more h.size) ((HR5.out.below h (Nat.le_refl _)).more h.size) h1 h2 HG.out HT.out HRG.out HRT.out)
              have HRM := Lib.hid (fun W (h : Below w5.heap.size w5 W) => refTimes15_any gs A c k W ((HL5.out.below h (Nat.le_refl _)).more h.size) h1 HG.out HKG.out)
              have HRN := Lib.hid (fun W (h : Below w5.heap.size w5 W) => refNorm_any gs A c W ((HL5.out.below h (Nat.le_refl _)).more h.size) (by omega))
              clear HL5 HR5 HS HU HG HT HRG HRT
              have cX := cellH XF
              have lXF := lt_of_H XF
              go_wp2_with fail
              refine (HRP.out _ (by (repeat' (first | with_reducible exact Below.refl _ _ | with_reducible assumption | with_reducible refine Below.drew ?_ | with_reducible refine below_drewN ?_ _ | with_reducible refine Below.setCell ?_ ?_ _ | with_reducible refine Below.alloc ?_ ?_ _ | omega | (simp; done) | (simp; omega))))).mono ?_
              rintro e w51 ⟨⟨vw, cdw, rfl, how⟩, hb⟩
              have t51 : Below wr.heap.size wr w51 := hb
              have zt51 := t51.size
              have hF51 : Below w5.heap.size w5 w51 := hF.trans (t51.mono zF)
              have zF51 := hF51.size
              obtain ⟨Aw, cw, rfl, _, _, rw9⟩ := Own.rows (fun x _ => encF_len x) how
              have RW := Lib.hid rw9
              rw [List.length_map] at *
              clear hb how rw9 cX lXF
              go_wp2_with fail
              refine (HRA.out _ (by (repeat' (first | with_reducible exact Below.refl _ _ | with_reducible assumption | with_reducible refine Below.drew ?_ | with_reducible refine below_drewN ?_ _ | with_reducible refine Below.setCell ?_ ?_ _ | with_reducible refine Below.alloc ?_ ?_ _ | omega | (simp; done) | (simp; omega))))).mono ?_
              rintro e w52 ⟨⟨vy, cdy, l9, rfl, hI9, hoy⟩, hb⟩
              have t52 : Below wr.heap.size wr w52 := stepH t51 hb
              have zt52 := t52.size
              have hF52 : Below w5.heap.size w5 w52 := hF.trans (t52.mono zF)
              have zF52 := hF52.size
              have hl9 := IsF.uniq hI9 HIA.out
              rw [hl9, ← HA9.out] at hoy
              obtain ⟨Ay, cy, rfl, _, _, ry⟩ := Own.rows (fun x _ => encR_len x) hoy
              have RY := Lib.hid ry
              replace RW := Lib.hid ((RW.out.below hb (Nat.le_refl _)).more hb.size)
              clear hb hoy ry hI9 hl9
              have cK := cellH (Lib.hid ((hF52.block _ lK).trans K.out))
              have lKF : w.heap.size < w52.heap.size := by omega
              go_wp2_with fail
              refine (HRM.out _ (by (repeat' (first | with_reducible exact Below.refl _ _ | with_reducible assumption | with_reducible refine Below.drew ?_ | with_reducible refine below_drewN ?_ _ | with_reducible refine Below.setCell ?_ ?_ _ | with_reducible refine Below.alloc ?_ ?_ _ | omega | (simp; done) | (simp; omega))))).mono ?_
              rintro e w53 ⟨⟨vz, cdz, rfl, hoz⟩, hb⟩
              have t53 : Below wr.heap.size wr w53 := stepH t52 hb
              have zt53 := t53.size
              have hF53 : Below w5.heap.size w5 w53 := hF.trans (t53.mono zF)
              have zF53 := hF53.size
              rw [← HT9.out] at hoz
              obtain ⟨Az, cz, rfl, _, _, rz⟩ := Own.rows (fun x _ => encR_len x) hoz
              have RZ := Lib.hid rz
              replace RW := Lib.hid ((RW.out.below hb (Nat.le_refl _)).more hb.size)
              replace RY := Lib.hid ((RY.out.below hb (Nat.le_refl _)).more hb.size)
              clear hb hoz rz cK lKF
              have HSF := Lib.hid (fun W (h : Below w53.heap.size w53 W) => sameParts gs x Aq Aw c9q cw W ((RQ.out.below (t53.trans (h.mono zt53)) (Nat.le_refl _)).more (Nat.le_trans zt53 h.size)) ((RW.out.below h (Nat.le_refl _)).more h.size) (by omega))
              have i53 : Below w53.heap.size w53 w53 := Below.refl _ _
              go_wp2_with fail
              refine (HSF.out _ (by (repeat' (first | with_reducible exact Below.refl _ _ | with_reducible assumption | with_reducible refine Below.drew ?_ | with_reducible refine below_drewN ?_ _ | with_reducible refine Below.setCell ?_ ?_ _ | with_reducible refine Below.alloc ?_ ?_ _ | omega | (simp; done) | (simp; omega))))).mono ?_
              rintro e w54 ⟨rfl, hb⟩
              have t54 : Below wr.heap.size wr w54 := stepH t53 hb
              have zt54 := t54.size
              have hF54 : Below w5.heap.size w5 w54 := hF.trans (t54.mono zF)
              have zF54 := hF54.size
              replace RY := Lib.hid ((RY.out.below hb (Nat.le_refl _)).more hb.size)
              replace RZ := Lib.hid ((RZ.out.below hb (Nat.le_refl _)).more hb.size)
              clear hb i53 HSF RW RQ
              have z0 : w54.cell? ⟨gh, 3, none⟩ = some (.slice Aa1 N9.length ca1) := (t54.cell (p := ⟨gh, 3, none⟩) lgh).trans C3.out
              have lg54 : gh < w54.heap.size := by omega
              have nN : N9.length ≤ 1000000 := by rw [HN9.out, List.length_map]; exact Nat.le_trans (normL_len1 gs) (by omega)
              have nA : A9.length ≤ 1000000 := by rw [HA9.out, List.length_map]; exact Nat.le_trans (withL_len _ _ _ _) (by decide)
              have nT : T9.length ≤ 1000000 := by rw [HT9.out, List.length_map]; exact Nat.le_trans (timesR_len k gs) (by omega)
              go_wp2_with fail
              go_region_held3 (fun w' => w'.cell? ⟨gh, 3, none⟩ = some (.slice Aa1 N9.length ca1)) (first | with_reducible exact z0 | go_keep)
                (first | (go_at_call 19; refine (HRN.out _ (by (repeat' (first | with_reducible exact Below.refl _ _ | with_reducible assumption | with_reducible refine Below.drew ?_ | with_reducible refine below_drewN ?_ _ | with_reducible refine Below.setCell ?_ ?_ _ | with_reducible refine Below.alloc ?_ ?_ _ | omega | (simp; done) | (simp; omega))))).mono ?_; rintro e w55 ⟨⟨vn, rfl, hon⟩, hb⟩; have t55 : Below wr.heap.size wr w55 := stepH (by (repeat' (first | with_reducible exact Below.refl _ _ | with_reducible assumption | with_reducible refine Below.drew ?_ | with_reducible refine below_drewN ?_ _ | with_reducible refine Below.setCell ?_ ?_ _ | with_reducible refine Below.alloc ?_ ?_ _ | omega | (simp; done) | (simp; omega)))) hb; have zt55 := t55.size; have hF55 : Below w5.heap.size w5 w55 := hF.trans (t55.mono zF); rw [← HN9.out] at hon; obtain ⟨An, cn, rfl, _, _, rn⟩ := Own.rows (fun x _ => encR_len x) hon; have RN9 := Lib.hid rn; replace RY := Lib.hid ((RY.out.below (by first | exact hb | exact ⟨hb.os, hb.tape, hb.output, hb.size, hb.block⟩) (Nat.le_refl _)).more hb.size); replace RZ := Lib.hid ((RZ.out.below (by first | exact hb | exact ⟨hb.os, hb.tape, hb.output, hb.size, hb.block⟩) (Nat.le_refl _)).more hb.size); have z0 := cellOf hb (by first | exact z0 | exact cell_drew z0); clear hon rn) | (go_at_call 13; refine (sameBr_any N9 Aa1 An ca1 cn _ ((Ra1.out.below t55 (Nat.le_refl _)).more zt55) RN9.out nN).mono ?_; rintro e w56 ⟨rfl, hb2⟩; have t56 : Below wr.heap.size wr w56 := stepH t55 hb2; have zt56 := t56.size; replace RY := Lib.hid ((RY.out.below hb2 (Nat.le_refl _)).more hb2.size); replace RZ := Lib.hid ((RZ.out.below hb2 (Nat.le_refl _)).more hb2.size); have z0 := cellOf hb2 z0))
              have z1 : w56.cell? ⟨gh, 4, none⟩ = some (.slice Ab1 A9.length cb1) := (t56.cell (p := ⟨gh, 4, none⟩) lgh).trans C4.out
              have lg56 : gh < w56.heap.size := by omega
              go_wp2_with fail
              refine (sameBr_any A9 Ab1 Ay cb1 cy _ ((Rb1.out.below t56 (Nat.le_refl _)).more zt56) RY.out nA).mono ?_
              rintro e w57 ⟨rfl, hb3⟩
              have t57 : Below wr.heap.size wr w57 := stepH t56 hb3
              have zt57 := t57.size
              replace RZ := Lib.hid ((RZ.out.below hb3 (Nat.le_refl _)).more hb3.size)
              have z2 : w57.cell? ⟨gh, 5, none⟩ = some (.slice Ad1 T9.length cd1) := (t57.cell (p := ⟨gh, 5, none⟩) lgh).trans C5.out
              have lg57 : gh < w57.heap.size := by omega
              clear z0 z1
              go_wp2_with fail
              refine (sameBr_any T9 Ad1 Az cd1 cz _ ((Rd1.out.below t57 (Nat.le_refl _)).more zt57) RZ.out nT).mono ?_
              rintro e w58 ⟨rfl, hb4⟩
              have t58 : Below wr.heap.size wr w58 := stepH t57 hb4
              have hF58 : Below w5.heap.size w5 w58 := hF.trans (t58.mono zF)
              have hW := RB.out _ hF58
              go_wp2_with fail
              go_ret
              exact ⟨rfl, by first | exact hW | exact Below.drew hW⟩

end Go.Proofs.YtmankldedhgdiaaDoor
