/- Two scales added: walk. -/
import Derived.Test.YtmankldedhgdiaaDoorSoG
namespace Go.Proofs.YtmankldedhgdiaaDoor
open Go.RowKit

theorem addFR (a b : Rat) (E : Nat → Addr) (w : World) (ha : Good a) (hb : Good b) (hE : Env LF E w) :
    Calls Tryd.prog 29 #[.agg #[.int .i64 a.num, .int .i64 a.den], .agg #[.int .i64 b.num, .int .i64 b.den]] w fun e w' => (∃ n d err, e = .returned (.tuple #[.agg #[.int .i64 n, .int .i64 d], err]) ∧ FR E (addO a b) n d err) ∧ Below w.heap.size w w' := by
  obtain ⟨a1, a2, a3, a4⟩ := bds ha
  obtain ⟨b1, b2, b3, b4⟩ := bds hb
  refine (add_any a.num a.den b.num b.den E w a1 a2 a3 a4 b1 b2 b3 b4 hE).mono ?_
  rintro e w' ⟨⟨n, d, err, rfl, hr⟩, hb⟩
  rw [opI_good _ ha (by assumption)] at hr
  exact ⟨⟨n, d, err, rfl, fr_goodR hr⟩, hb⟩

set_option maxRecDepth 100000 in
set_option maxHeartbeats 16000000 in
theorem withAdd_any (gs ts : List (Rat × Rat)) (A B : Option Addr) (c d : Nat) (E : Nat → Addr) (w : World) (hl : RowAt encR 4 w w.heap.size A (gs.map bR)) (hr : RowAt encR 4 w w.heap.size B (ts.map bR)) (hA : A = none → gs.length = 0 ∧ c = 0) (hB : B = none → ts.length = 0 ∧ d = 0) (h1 : gs.length ≤ 32) (h2 : ts.length ≤ 32) (hg : ∀ b ∈ gs, GoodB b) (ht : ∀ b ∈ ts, GoodB b) (hE : Env LC E w) :
    Calls Tryd.prog 28 #[.slice A gs.length c, .slice B ts.length d, .func (.func 29) #[] #[]] w fun e w' => (∃ v err l, e = .returned (.tuple #[v, err]) ∧ IsF gs ts l ∧ Own encR 4 31 w.heap.size w' v ((withL addO gs ts l).map bR)) ∧ Below w.heap.size w w' := by
  obtain ⟨inf0, hi, jz0, jz1, jz2⟩ := info_parts infoBr
  obtain ⟨inf1, hi1, jf0, jf1, jf2⟩ := info_parts infoFrac
  have HL := Lib.hid hl
  have HR := Lib.hid hr
  have HG := Lib.hid hg
  have HT := Lib.hid ht
  have HE := Lib.hid hE
  have HC := Lib.hid (fun w' (h : Below w.heap.size w w') g hg => concat_any (gs.map bR) (ts.map bR) A B c d g w' ((hl.below h (Nat.le_refl _)).more h.size) ((hr.below h (Nat.le_refl _)).more h.size) (by rw [List.length_map]; exact hA) (by rw [List.length_map]; exact hB) (by rw [List.length_map]; omega) (by rw [List.length_map]; omega) hg)
  obtain ⟨al, hal⟩ : ∃ al, al = gs ++ ts := ⟨_, rfl⟩
  have HAL := Lib.hid hal
  have hall : al.length ≤ 64 := by rw [hal, List.length_append]; omega
  have hga : ∀ b ∈ al, GoodB b := by rw [hal]; intro b hb; rcases List.mem_append.1 hb with h | h; exact hg b h; exact ht b h
  have HGA := Lib.hid hga
  rw [← List.map_append, ← hal] at HC
  clear hl hr hg ht hE hA hB hal hga
  go_enter Tryd.func28, Tryd.ntmps28
  go_wp2_with fail
  refine (HC.out _ (by (repeat' (first | with_reducible exact Below.refl _ _ | with_reducible assumption | with_reducible refine Below.drew ?_ | with_reducible refine below_drewN ?_ _ | with_reducible refine Below.setCell ?_ ?_ _ | with_reducible refine Below.alloc ?_ ?_ _ | omega | (simp; done) | (simp; omega)))) w.heap.size (Lib.hid (by rw [List.length_map, List.length_map]; exact blk_new rfl))).mono ?_
  rintro e w1 ⟨⟨v1, rfl, hown⟩, hb1⟩
  have hw1 : Below w.heap.size w w1 := stepH (by (repeat' (first | with_reducible exact Below.refl _ _ | with_reducible assumption | with_reducible refine Below.drew ?_ | with_reducible refine below_drewN ?_ _ | with_reducible refine Below.setCell ?_ ?_ _ | with_reducible refine Below.alloc ?_ ?_ _ | omega | (simp; done) | (simp; omega)))) hb1
  have z1 := hw1.size
  obtain ⟨A1, c1, rfl, _, _, hrow⟩ := Own.rows (fun x _ => encR_len x) hown
  have HROW := Lib.hid hrow
  clear hown hrow hb1 HC
  rw [List.length_map] at *
  go_wp2_with fail
  go_loopw [8, 21] (fun v i wr => ∃ (k : Nat), k ≤ al.length ∧ i = .int .i64 k ∧ Hid (wr.ownsRow w1.heap.size 24 2 v k (((al.take k).map fun b => fq b.1).flatMap encF)) ∧ Below w1.heap.size w1 wr) (fun _ i _ => al.length - (intOf i).toNat)
  case atStart => exact ⟨0, Nat.zero_le _, rfl, World.ownsRow_nil _ _ _ _, Below.refl _ _⟩
  case round =>
    obtain ⟨k, hk, rfl, HO, hx0⟩ := hrel
    have y0 := hx0.size
    by_cases hlt : k < al.length
    · obtain ⟨b, hb⟩ : ∃ b, al[k]? = some b := ⟨al[k], List.getElem?_eq_getElem hlt⟩
      obtain ⟨g, off, hA1, hgB, k0, k1, k2, k3⟩ := cells4 (HROW.out.below hx0 (Nat.le_refl _)) (show (al.map bR)[k]? = some (bR b) by rw [List.getElem?_map, hb]; rfl)
      subst hA1
      replace k0 : wr.cell? ⟨g, off + k * 4, none⟩ = some (.int .i64 b.1.num) := k0
      replace k1 : wr.cell? ⟨g, off + k * 4 + 1, none⟩ = some (.int .i64 b.1.den) := k1
      replace k2 : wr.cell? ⟨g, off + k * 4 + 2, none⟩ = some (.int .i64 b.2.num) := k2
      replace k3 : wr.cell? ⟨g, off + k * 4 + 3, none⟩ = some (.int .i64 b.2.den) := k3
      have HB := Lib.hid hb
      clear hb
      go_wp2_with (at_builtin; go_must (refine wpList_append_own _ rfl (.tmp 25) (.tmp 28) 39 rfl w1.heap.size 24 inf1 _ 2 16 Tryd.underlying39 hi1 jf0 jf1 jf2 rfl (by decide) _ k _ rfl (own_below HO.out (by (repeat' (first | with_reducible exact Below.refl _ _ | with_reducible assumption | with_reducible refine Below.drew ?_ | with_reducible refine below_drewN ?_ _ | with_reducible refine Below.setCell ?_ ?_ _ | with_reducible refine Below.alloc ?_ ?_ _ | omega | (simp; done) | (simp; omega))))) ⟨wr.heap.size + 1, 0, none⟩ 1 1 [.int .i64 b.1.num, .int .i64 b.1.den] rfl rfl (World.news_of_block (cs := #[.int .i64 b.1.num, .int .i64 b.1.den]) (blk_new (by simp))) (by simp [Value.oneCell']) (by unfold maxLen; omega) (by omega) (by simp; omega) ?_); intro v' w9 hown9 hgrow9 _)
      go_roundw
      case rel =>
        refine ⟨k + 1, by omega, by go_num, ?_, ?_⟩
        · show World.ownsRow _ _ _ _ _ _ _
          rw [take_snoc HB.out, List.map_append, List.flatMap_append]; simpa [encF, fq] using hown9
        · exact Below.grown (by (repeat' (first | with_reducible exact Below.refl _ _ | with_reducible assumption | with_reducible refine Below.drew ?_ | with_reducible refine below_drewN ?_ _ | with_reducible refine Below.setCell ?_ ?_ _ | with_reducible refine Below.alloc ?_ ?_ _ | omega | (simp; done) | (simp; omega)))) hgrow9 (by simp; omega) (fun g hg => (HO.out.lt g hg).1)
      case measure => simp [intOf]; omega
    · obtain rfl : k = al.length := by omega
      obtain ⟨fl, hfl⟩ : ∃ fl, fl = al.map (·.1) := ⟨_, rfl⟩
      have hfn : fl.length = al.length := by rw [hfl, List.length_map]
      have HFL := Lib.hid hfl
      have HO1 : Hid (wr.ownsRow w1.heap.size 24 2 u8 al.length ((fl.map fq).flatMap encF)) := by have h := HO.out; rw [List.take_length] at h; rw [hfl, List.map_map]; exact Lib.hid h
      clear HO hfl
      have hn64 : al.length ≤ 64 := hall
      generalize al.length = n at *
      have HFG : Hid (∀ q ∈ fl, Good q) := by show ∀ q ∈ fl, Good q; intro q hq; rw [HFL.out] at hq; obtain ⟨b, hb, rfl⟩ := List.mem_map.1 hq; exact (HGA.out b hb).1
      subst hfn
      have hO1 : Own encF 2 24 w1.heap.size wr u8 (fl.map fq) := by unfold Own; rw [List.length_map]; exact HO1.out
      obtain ⟨A2, c2, rfl, _, _, _⟩ := Own.rows (fun x _ => encF_len x) hO1
      rw [List.length_map] at *
      have HO2 := Lib.hid hO1
      clear hO1 HO1
      go_wp2_with fail
      refine (sortG_any fl A2 c2 w1.heap.size _ HO2.out (by omega) HFG.out y0).mono ?_
      rintro e w2 ⟨⟨rfl, rs, hrl, hown, hperm, hpair⟩, hb2⟩
      have hx2 : Below w1.heap.size w1 w2 := hx0.trans hb2
      have y2 := hx2.size
      have HO3 := Lib.hid hown
      have HIS := Lib.hid (isF_compact (s := gs) (t := ts) (rs := rs) (by rw [← HAL.out, ← HFL.out]; exact hperm) hpair)
      have HRG : Hid (∀ q ∈ rs, Good q) := Lib.hid (fun q hq => HFG.out q (hperm.mem_iff.1 hq))
      clear hown hpair hperm hb2 HO2
      have hr64 : rs.length ≤ 64 := by omega
      rw [← hrl] at HO3 ⊢
      clear hrl
      go_wp2_with fail
      refine (compactG_any rs A2 c2 w1.heap.size _ HO3.out (by omega) y2).mono ?_
      rintro e w4 ⟨⟨rfl, hown⟩, hb4⟩
      have hx4 : Below w1.heap.size w1 w4 := hx2.trans hb4
      have hw4 : Below w.heap.size w w4 := hw1.trans (hx4.mono z1)
      have z4 := hw4.size
      have HLG : Hid (∀ q ∈ dedup rs, Good q) := Lib.hid (fun q hq => HRG.out q ((dedup_mem q rs).1 hq))
      have hdl : (dedup rs).length ≤ 64 := Nat.le_trans (dedup_len rs) hr64
      generalize dedup rs = l at *
      obtain ⟨A4, c4, e4, _, _, hrow⟩ := Own.rows (fun x _ => encF_len x) hown
      have hrow4 : RowAt encF 2 w4 w4.heap.size A2 (l.map fq) := by injection e4 with e4; rw [e4]; exact hrow
      have HR4 := Lib.hid hrow4
      clear hown hrow hrow4 e4 hb4 HO3
      go_wp2_with fail
      go_loopw [11, 36] (fun v i wr => ∃ (k : Nat) (o : List (Rat × Rat)), k ≤ l.length ∧ o.length = k ∧ i = .int .i64 k ∧ Hid (outsL addO gs ts l = (outsL addO gs ts (l.drop k)).map (o ++ ·)) ∧ Hid (wr.ownsRow w4.heap.size 31 4 v k ((o.map bR).flatMap encR)) ∧ Below w4.heap.size w4 wr) (fun _ i _ => l.length - (intOf i).toNat)
      case atStart => exact ⟨0, [], Nat.zero_le _, rfl, rfl, Lib.hid (by simp), World.ownsRow_nil _ _ _ _, Below.refl _ _⟩
      case round =>
        obtain ⟨k, o, hk, hol, rfl, hou, HO, hy0⟩ := hrel
        have u0 := hy0.size
        have hw0 : Below w.heap.size w wr := hw4.trans (hy0.mono z4)
        have z0 := hw0.size
        by_cases hlt : k < l.length
        · obtain ⟨x, hx⟩ : ∃ x, l[k]? = some x := ⟨l[k], List.getElem?_eq_getElem hlt⟩
          have GX := Lib.hid (HLG.out x (List.mem_of_getElem? hx))
          obtain ⟨g, off, hA2, hgB, hc⟩ := (HR4.out.below hy0 (Nat.le_refl _)) k (fq x) (by rw [List.getElem?_map, hx]; rfl)
          subst hA2
          have k0 : wr.cell? ⟨g, off + k * 2, none⟩ = some (.int .i64 x.num) := hc 0 _ rfl
          have k1 : wr.cell? ⟨g, off + k * 2 + 1, none⟩ = some (.int .i64 x.den) := hc 1 _ rfl
          have HD := Lib.hid (drop_cons hx)
          clear hx hc
          go_upto_region 12 with fail
          have ha : Below wr.heap.size wr wr := Below.refl _ _
          have yha := ha.size
          have yhy0 := u0
          have hw5 : Below w.heap.size w (wr.alloc (.cells #[.int .i64 x.num, .int .i64 x.den] 24)) := by (repeat' (first | with_reducible exact Below.refl _ _ | with_reducible assumption | with_reducible refine Below.drew ?_ | with_reducible refine below_drewN ?_ _ | with_reducible refine Below.setCell ?_ ?_ _ | with_reducible refine Below.alloc ?_ ?_ _ | omega | (simp; done) | (simp; omega)))
          replace hy0 : Below w4.heap.size w4 (wr.alloc (.cells #[.int .i64 x.num, .int .i64 x.den] 24)) := by (repeat' (first | with_reducible exact Below.refl _ _ | with_reducible assumption | with_reducible refine Below.drew ?_ | with_reducible refine below_drewN ?_ _ | with_reducible refine Below.setCell ?_ ?_ _ | with_reducible refine Below.alloc ?_ ?_ _ | omega | (simp; done) | (simp; omega)))
          replace ha : Below wr.heap.size wr (wr.alloc (.cells #[.int .i64 x.num, .int .i64 x.den] 24)) := by (repeat' (first | with_reducible exact Below.refl _ _ | with_reducible assumption | with_reducible refine Below.drew ?_ | with_reducible refine below_drewN ?_ _ | with_reducible refine Below.setCell ?_ ?_ _ | with_reducible refine Below.alloc ?_ ?_ _ | omega | (simp; done) | (simp; omega)))
          have X : Hid ((wr.alloc (.cells #[.int .i64 x.num, .int .i64 x.den] 24)).heap[wr.heap.size]? = some (.cells #[.int .i64 x.num, .int .i64 x.den] 24 (0, 0))) := (blk_new rfl)
          generalize (wr.alloc (.cells #[.int .i64 x.num, .int .i64 x.den] 24)) = w5 at *
          have z5 := hw5.size
          replace yhy0 := hy0.size
          replace yha := ha.size
          have cX := cellH X
          obtain ⟨lX, lX1, lX2⟩ := ltH X
          clear cX lX lX1 lX2
          have GA := Lib.hid (rateF_good (x := x) good_zero HG.out)
          have GB := Lib.hid (rateF_good (x := x) good_zero HT.out)
          obtain ⟨ra, hra⟩ : ∃ ra, rateF x 0 gs = ra := ⟨_, rfl⟩
          obtain ⟨rb, hrb⟩ : ∃ rb, rateF x 0 ts = rb := ⟨_, rfl⟩
          have HRA := Lib.hid hra
          have HRB := Lib.hid hrb
          rw [hra] at GA
          rw [hrb] at GB
          clear hra hrb
          cases hf : addO ra rb
          · have HF := Lib.hid hf
            clear hf
            have HOU := Lib.hid (outs_off hou.out HD.out (by simp only [HRA.out, HRB.out]; exact HF.out))
            go_upto_region 12 with fail
            go_cut [14, 15] (fun s14 s15 wx => ∃ g : Nat, s14 = .pointer (some ⟨g, 0, none⟩) ∧ s15 = (.iface 122 (.pointer (some (E 5)))) ∧ Below w5.heap.size w5 wx ∧ Below w.heap.size w wx ∧ Hid (wx.heap[wr.heap.size]? = some (.cells #[.int .i64 x.num, .int .i64 x.den] 24 (0, 0))) ∧ Hid (wx.heap[g]? = some (.cells #[.int .i64 0, .int .i64 0] 24 (0, 0))))
            case first =>
              as_aux_lemma =>
                have kX0 : w5.cell? ⟨wr.heap.size, 0, none⟩ = some (.int .i64 x.num) := cellH X 0
                have kX1 : w5.cell? ⟨wr.heap.size, 1, none⟩ = some (.int .i64 x.den) := cellH X 1
                have lX := lt_of_H X
                have nX : wr.heap.size ≠ w5.heap.size := Nat.ne_of_lt lX
                have tok0 := True.intro
                go_region_held3 (fun w' => w'.cell? ⟨wr.heap.size, 0, none⟩ = some (.int .i64 x.num) ∧ w'.cell? ⟨wr.heap.size, 1, none⟩ = some (.int .i64 x.den)) (first | with_reducible exact ⟨kX0, kX1⟩ | with_reducible exact ⟨cell_set (cell_set kX0 (by first | assumption | (dsimp only; assumption) | (dsimp only; omega))) (by first | assumption | (dsimp only; assumption) | (dsimp only; omega)), cell_set (cell_set kX1 (by first | assumption | (dsimp only; assumption) | (dsimp only; omega))) (by first | assumption | (dsimp only; assumption) | (dsimp only; omega))⟩ | go_keep)
                  (first | (have tk := tok0; clear tk; go_at_call 50; refine (from_any gs A c x _ ((HL.out.below (by (repeat' (first | with_reducible exact Below.refl _ _ | with_reducible assumption | with_reducible refine Below.drew ?_ | with_reducible refine below_drewN ?_ _ | with_reducible refine Below.setCell ?_ ?_ _ | with_reducible refine Below.alloc ?_ ?_ _ | omega | (simp; done) | (simp; omega)))) (Nat.le_refl _)).more (by first | omega | (simp; omega))) (by omega) HG.out GX.out).mono ?_; rintro e w6 ⟨rfl, hb6⟩; rw [HRA.out]; have hw6 : Below w.heap.size w w6 := stepH (by (repeat' (first | with_reducible exact Below.refl _ _ | with_reducible assumption | with_reducible refine Below.drew ?_ | with_reducible refine below_drewN ?_ _ | with_reducible refine Below.setCell ?_ ?_ _ | with_reducible refine Below.alloc ?_ ?_ _ | omega | (simp; done) | (simp; omega)))) hb6; have zw6 := hw6.size; (try (have NB := keepH hb6 (by with_reducible first | exact blk_new rfl | exact drew_old (blk_new rfl) | exact NB.out | exact drew_old NB.out); have cNB := cellH NB; have fNB := frozH NB)); replace X := keepH hb6 (by first | with_reducible exact X.out | with_reducible exact blk_old X.out | with_reducible exact drew_old X.out | with_reducible exact drew_old (blk_old X.out)); have kX0 : w6.cell? ⟨wr.heap.size, 0, none⟩ = some (.int .i64 x.num) := cellH X 0; have kX1 : w6.cell? ⟨wr.heap.size, 1, none⟩ = some (.int .i64 x.den) := cellH X 1; have lX := lt_of_H X; have nX : wr.heap.size ≠ w6.heap.size := Nat.ne_of_lt lX; have HP : Below w5.heap.size w5 w6 := stepH (by (repeat' (first | with_reducible exact Below.refl _ _ | with_reducible assumption | with_reducible refine Below.drew ?_ | with_reducible refine below_drewN ?_ _ | with_reducible refine Below.setCell ?_ ?_ _ | with_reducible refine Below.alloc ?_ ?_ _ | omega | (simp; done) | (simp; omega)))) hb6; have zP := HP.size; clear tok0; have tok1 := True.intro) | (have tk := tok1; clear tk; go_at_call 50; refine (from_any ts B d x _ ((HR.out.below (by (repeat' (first | with_reducible exact Below.refl _ _ | with_reducible assumption | with_reducible refine Below.drew ?_ | with_reducible refine below_drewN ?_ _ | with_reducible refine Below.setCell ?_ ?_ _ | with_reducible refine Below.alloc ?_ ?_ _ | omega | (simp; done) | (simp; omega)))) (Nat.le_refl _)).more (by first | omega | (simp; omega))) (by omega) HT.out GX.out).mono ?_; rintro e w6 ⟨rfl, hb6⟩; rw [HRB.out]; have hw6 : Below w.heap.size w w6 := stepH (by (repeat' (first | with_reducible exact Below.refl _ _ | with_reducible assumption | with_reducible refine Below.drew ?_ | with_reducible refine below_drewN ?_ _ | with_reducible refine Below.setCell ?_ ?_ _ | with_reducible refine Below.alloc ?_ ?_ _ | omega | (simp; done) | (simp; omega)))) hb6; have zw6 := hw6.size; (try (have NB := keepH hb6 (by with_reducible first | exact blk_new rfl | exact drew_old (blk_new rfl) | exact NB.out | exact drew_old NB.out); have cNB := cellH NB; have fNB := frozH NB)); replace X := keepH hb6 (by first | with_reducible exact X.out | with_reducible exact blk_old X.out | with_reducible exact drew_old X.out | with_reducible exact drew_old (blk_old X.out)); have kX0 : w6.cell? ⟨wr.heap.size, 0, none⟩ = some (.int .i64 x.num) := cellH X 0; have kX1 : w6.cell? ⟨wr.heap.size, 1, none⟩ = some (.int .i64 x.den) := cellH X 1; have lX := lt_of_H X; have nX : wr.heap.size ≠ w6.heap.size := Nat.ne_of_lt lX; have HP : Below w5.heap.size w5 w6 := stepH (by (repeat' (first | with_reducible exact Below.refl _ _ | with_reducible assumption | with_reducible refine Below.drew ?_ | with_reducible refine below_drewN ?_ _ | with_reducible refine Below.setCell ?_ ?_ _ | with_reducible refine Below.alloc ?_ ?_ _ | omega | (simp; done) | (simp; omega)))) hb6; have zP := HP.size; clear tok1; have tok2 := True.intro) | (have tk := tok2; clear tk; go_at_call 29; refine (addFR ra rb E _ GA.out GB.out ((HE.out.sub (by decide)).below (by (repeat' (first | with_reducible exact Below.refl _ _ | with_reducible assumption | with_reducible refine Below.drew ?_ | with_reducible refine below_drewN ?_ _ | with_reducible refine Below.setCell ?_ ?_ _ | with_reducible refine Below.alloc ?_ ?_ _ | omega | (simp; done) | (simp; omega)))))).mono ?_; rintro e w6 ⟨⟨n', d', err, rfl, hr⟩, hb6⟩; obtain ⟨rfl, rfl, rfl⟩ := fr_none hr HF.out; have hw6 : Below w.heap.size w w6 := stepH (by (repeat' (first | with_reducible exact Below.refl _ _ | with_reducible assumption | with_reducible refine Below.drew ?_ | with_reducible refine below_drewN ?_ _ | with_reducible refine Below.setCell ?_ ?_ _ | with_reducible refine Below.alloc ?_ ?_ _ | omega | (simp; done) | (simp; omega)))) hb6; have zw6 := hw6.size; (try (have NB := keepH hb6 (by with_reducible first | exact blk_new rfl | exact drew_old (blk_new rfl) | exact NB.out | exact drew_old NB.out); have cNB := cellH NB; have fNB := frozH NB)); replace X := keepH hb6 (by first | with_reducible exact X.out | with_reducible exact blk_old X.out | with_reducible exact drew_old X.out | with_reducible exact drew_old (blk_old X.out)); have kX0 : w6.cell? ⟨wr.heap.size, 0, none⟩ = some (.int .i64 x.num) := cellH X 0; have kX1 : w6.cell? ⟨wr.heap.size, 1, none⟩ = some (.int .i64 x.den) := cellH X 1; have lX := lt_of_H X; have nX : wr.heap.size ≠ w6.heap.size := Nat.ne_of_lt lX; have HP : Below w5.heap.size w5 w6 := stepH (by (repeat' (first | with_reducible exact Below.refl _ _ | with_reducible assumption | with_reducible refine Below.drew ?_ | with_reducible refine below_drewN ?_ _ | with_reducible refine Below.setCell ?_ ?_ _ | with_reducible refine Below.alloc ?_ ?_ _ | omega | (simp; done) | (simp; omega)))) hb6; have zP := HP.size; clear tok2; have tok3 := True.intro))
                all_goals go_wp2_with fail
                all_goals go_meet
                all_goals exact ⟨_, rfl, rfl, (by (repeat' (first | with_reducible exact Below.refl _ _ | with_reducible assumption | with_reducible refine Below.drew ?_ | with_reducible refine below_drewN ?_ _ | with_reducible refine Below.setCell ?_ ?_ _ | with_reducible refine Below.alloc ?_ ?_ _ | omega | (simp; done) | (simp; omega)))), (by (repeat' (first | with_reducible exact Below.refl _ _ | with_reducible assumption | with_reducible refine Below.drew ?_ | with_reducible refine below_drewN ?_ _ | with_reducible refine Below.setCell ?_ ?_ _ | with_reducible refine Below.alloc ?_ ?_ _ | omega | (simp; done) | (simp; omega)))), (by with_reducible first | exact X | exact setH2o X (by assumption) | exact Lib.hid (blk_old X.out)), (by first | with_reducible exact setH2 NB.out | exact blk_new rfl)⟩
            case rest =>
              as_aux_lemma =>
                clear X
                obtain ⟨gRr, rfl, rfl, hst, hw7, X, Rr⟩ := hcut
                obtain ⟨w7, rfl⟩ : ∃ x : World, x = wc := ⟨_, rfl⟩
                have z7 := hw7.size
                have cX := cellH X
                obtain ⟨lX, lX1, lX2⟩ := ltH X
                have cRr := cellH Rr
                obtain ⟨lRr, lRr1, lRr2⟩ := ltH Rr
                have yst := hst.size
                have HV : ∀ W, Own encR 4 31 w.heap.size W (.slice none 0 0) ((withL addO gs ts l).map bR) := fun W => by rw [show withL addO gs ts l = [] from (by unfold withL; rw [HOU.out])]; exact Own.nil
                have hen := fun w => eql_nil (E 5) w
                go_wp2_with fail
                go_ret2
                refine ⟨?_, by (repeat' (first | with_reducible exact Below.refl _ _ | with_reducible assumption | with_reducible refine Below.drew ?_ | with_reducible refine below_drewN ?_ _ | with_reducible refine Below.setCell ?_ ?_ _ | with_reducible refine Below.alloc ?_ ?_ _ | omega | (simp; done) | (simp; omega)))⟩
                first | exact ⟨_, _, l, rfl, HIS.out, HV _⟩ | exact ⟨_, ⟨_, rfl⟩, l, HIS.out, HV _⟩
          · rename_i r
            have HF := Lib.hid hf
            clear hf
            have GR := Lib.hid (addO_good HF.out)
            have HOU := Lib.hid (outs_on hou.out HD.out (by simp only [HRA.out, HRB.out]; exact HF.out))
            go_upto_region 12 with fail
            go_cut [14, 15] (fun s14 s15 wx => ∃ g : Nat, s14 = .pointer (some ⟨g, 0, none⟩) ∧ s15 = .nilIface ∧ Below w5.heap.size w5 wx ∧ Below w.heap.size w wx ∧ Hid (wx.heap[wr.heap.size]? = some (.cells #[.int .i64 x.num, .int .i64 x.den] 24 (0, 0))) ∧ Hid (wx.heap[g]? = some (.cells #[.int .i64 r.num, .int .i64 r.den] 24 (0, 0))))
            case first =>
              as_aux_lemma =>
                have kX0 : w5.cell? ⟨wr.heap.size, 0, none⟩ = some (.int .i64 x.num) := cellH X 0
                have kX1 : w5.cell? ⟨wr.heap.size, 1, none⟩ = some (.int .i64 x.den) := cellH X 1
                have lX := lt_of_H X
                have nX : wr.heap.size ≠ w5.heap.size := Nat.ne_of_lt lX
                have tok0 := True.intro
                go_region_held3 (fun w' => w'.cell? ⟨wr.heap.size, 0, none⟩ = some (.int .i64 x.num) ∧ w'.cell? ⟨wr.heap.size, 1, none⟩ = some (.int .i64 x.den)) (first | with_reducible exact ⟨kX0, kX1⟩ | with_reducible exact ⟨cell_set (cell_set kX0 (by first | assumption | (dsimp only; assumption) | (dsimp only; omega))) (by first | assumption | (dsimp only; assumption) | (dsimp only; omega)), cell_set (cell_set kX1 (by first | assumption | (dsimp only; assumption) | (dsimp only; omega))) (by first | assumption | (dsimp only; assumption) | (dsimp only; omega))⟩ | go_keep)
                  (first | (have tk := tok0; clear tk; go_at_call 50; refine (from_any gs A c x _ ((HL.out.below (by (repeat' (first | with_reducible exact Below.refl _ _ | with_reducible assumption | with_reducible refine Below.drew ?_ | with_reducible refine below_drewN ?_ _ | with_reducible refine Below.setCell ?_ ?_ _ | with_reducible refine Below.alloc ?_ ?_ _ | omega | (simp; done) | (simp; omega)))) (Nat.le_refl _)).more (by first | omega | (simp; omega))) (by omega) HG.out GX.out).mono ?_; rintro e w8 ⟨rfl, hb8⟩; rw [HRA.out]; have hw8 : Below w.heap.size w w8 := stepH (by (repeat' (first | with_reducible exact Below.refl _ _ | with_reducible assumption | with_reducible refine Below.drew ?_ | with_reducible refine below_drewN ?_ _ | with_reducible refine Below.setCell ?_ ?_ _ | with_reducible refine Below.alloc ?_ ?_ _ | omega | (simp; done) | (simp; omega)))) hb8; have zw8 := hw8.size; (try (have NB := keepH hb8 (by with_reducible first | exact blk_new rfl | exact drew_old (blk_new rfl) | exact NB.out | exact drew_old NB.out); have cNB := cellH NB; have fNB := frozH NB)); replace X := keepH hb8 (by first | with_reducible exact X.out | with_reducible exact blk_old X.out | with_reducible exact drew_old X.out | with_reducible exact drew_old (blk_old X.out)); have kX0 : w8.cell? ⟨wr.heap.size, 0, none⟩ = some (.int .i64 x.num) := cellH X 0; have kX1 : w8.cell? ⟨wr.heap.size, 1, none⟩ = some (.int .i64 x.den) := cellH X 1; have lX := lt_of_H X; have nX : wr.heap.size ≠ w8.heap.size := Nat.ne_of_lt lX; have HP : Below w5.heap.size w5 w8 := stepH (by (repeat' (first | with_reducible exact Below.refl _ _ | with_reducible assumption | with_reducible refine Below.drew ?_ | with_reducible refine below_drewN ?_ _ | with_reducible refine Below.setCell ?_ ?_ _ | with_reducible refine Below.alloc ?_ ?_ _ | omega | (simp; done) | (simp; omega)))) hb8; have zP := HP.size; clear tok0; have tok1 := True.intro) | (have tk := tok1; clear tk; go_at_call 50; refine (from_any ts B d x _ ((HR.out.below (by (repeat' (first | with_reducible exact Below.refl _ _ | with_reducible assumption | with_reducible refine Below.drew ?_ | with_reducible refine below_drewN ?_ _ | with_reducible refine Below.setCell ?_ ?_ _ | with_reducible refine Below.alloc ?_ ?_ _ | omega | (simp; done) | (simp; omega)))) (Nat.le_refl _)).more (by first | omega | (simp; omega))) (by omega) HT.out GX.out).mono ?_; rintro e w8 ⟨rfl, hb8⟩; rw [HRB.out]; have hw8 : Below w.heap.size w w8 := stepH (by (repeat' (first | with_reducible exact Below.refl _ _ | with_reducible assumption | with_reducible refine Below.drew ?_ | with_reducible refine below_drewN ?_ _ | with_reducible refine Below.setCell ?_ ?_ _ | with_reducible refine Below.alloc ?_ ?_ _ | omega | (simp; done) | (simp; omega)))) hb8; have zw8 := hw8.size; (try (have NB := keepH hb8 (by with_reducible first | exact blk_new rfl | exact drew_old (blk_new rfl) | exact NB.out | exact drew_old NB.out); have cNB := cellH NB; have fNB := frozH NB)); replace X := keepH hb8 (by first | with_reducible exact X.out | with_reducible exact blk_old X.out | with_reducible exact drew_old X.out | with_reducible exact drew_old (blk_old X.out)); have kX0 : w8.cell? ⟨wr.heap.size, 0, none⟩ = some (.int .i64 x.num) := cellH X 0; have kX1 : w8.cell? ⟨wr.heap.size, 1, none⟩ = some (.int .i64 x.den) := cellH X 1; have lX := lt_of_H X; have nX : wr.heap.size ≠ w8.heap.size := Nat.ne_of_lt lX; have HP : Below w5.heap.size w5 w8 := stepH (by (repeat' (first | with_reducible exact Below.refl _ _ | with_reducible assumption | with_reducible refine Below.drew ?_ | with_reducible refine below_drewN ?_ _ | with_reducible refine Below.setCell ?_ ?_ _ | with_reducible refine Below.alloc ?_ ?_ _ | omega | (simp; done) | (simp; omega)))) hb8; have zP := HP.size; clear tok1; have tok2 := True.intro) | (have tk := tok2; clear tk; go_at_call 29; refine (addFR ra rb E _ GA.out GB.out ((HE.out.sub (by decide)).below (by (repeat' (first | with_reducible exact Below.refl _ _ | with_reducible assumption | with_reducible refine Below.drew ?_ | with_reducible refine below_drewN ?_ _ | with_reducible refine Below.setCell ?_ ?_ _ | with_reducible refine Below.alloc ?_ ?_ _ | omega | (simp; done) | (simp; omega)))))).mono ?_; rintro e w8 ⟨⟨n', d', err, rfl, hr⟩, hb8⟩; obtain ⟨rfl, rfl, rfl⟩ := fr_some hr HF.out; have hw8 : Below w.heap.size w w8 := stepH (by (repeat' (first | with_reducible exact Below.refl _ _ | with_reducible assumption | with_reducible refine Below.drew ?_ | with_reducible refine below_drewN ?_ _ | with_reducible refine Below.setCell ?_ ?_ _ | with_reducible refine Below.alloc ?_ ?_ _ | omega | (simp; done) | (simp; omega)))) hb8; have zw8 := hw8.size; (try (have NB := keepH hb8 (by with_reducible first | exact blk_new rfl | exact drew_old (blk_new rfl) | exact NB.out | exact drew_old NB.out); have cNB := cellH NB; have fNB := frozH NB)); replace X := keepH hb8 (by first | with_reducible exact X.out | with_reducible exact blk_old X.out | with_reducible exact drew_old X.out | with_reducible exact drew_old (blk_old X.out)); have kX0 : w8.cell? ⟨wr.heap.size, 0, none⟩ = some (.int .i64 x.num) := cellH X 0; have kX1 : w8.cell? ⟨wr.heap.size, 1, none⟩ = some (.int .i64 x.den) := cellH X 1; have lX := lt_of_H X; have nX : wr.heap.size ≠ w8.heap.size := Nat.ne_of_lt lX; have HP : Below w5.heap.size w5 w8 := stepH (by (repeat' (first | with_reducible exact Below.refl _ _ | with_reducible assumption | with_reducible refine Below.drew ?_ | with_reducible refine below_drewN ?_ _ | with_reducible refine Below.setCell ?_ ?_ _ | with_reducible refine Below.alloc ?_ ?_ _ | omega | (simp; done) | (simp; omega)))) hb8; have zP := HP.size; clear tok2; have tok3 := True.intro))
                all_goals go_wp2_with fail
                all_goals go_meet
                all_goals exact ⟨_, rfl, rfl, (by (repeat' (first | with_reducible exact Below.refl _ _ | with_reducible assumption | with_reducible refine Below.drew ?_ | with_reducible refine below_drewN ?_ _ | with_reducible refine Below.setCell ?_ ?_ _ | with_reducible refine Below.alloc ?_ ?_ _ | omega | (simp; done) | (simp; omega)))), (by (repeat' (first | with_reducible exact Below.refl _ _ | with_reducible assumption | with_reducible refine Below.drew ?_ | with_reducible refine below_drewN ?_ _ | with_reducible refine Below.setCell ?_ ?_ _ | with_reducible refine Below.alloc ?_ ?_ _ | omega | (simp; done) | (simp; omega)))), (by with_reducible first | exact X | exact setH2o X (by assumption) | exact Lib.hid (blk_old X.out)), (by first | with_reducible exact setH2 NB.out | exact blk_new rfl)⟩
            case rest =>
              as_aux_lemma =>
                clear X
                obtain ⟨gRr, rfl, rfl, hst, hw9, X, Rr⟩ := hcut
                obtain ⟨w9, rfl⟩ : ∃ x : World, x = wc := ⟨_, rfl⟩
                have z9 := hw9.size
                have cX := cellH X
                obtain ⟨lX, lX1, lX2⟩ := ltH X
                have cRr := cellH Rr
                obtain ⟨lRr, lRr1, lRr2⟩ := ltH Rr
                have yst := hst.size
                have HO5 : Hid (World.ownsRow w9 w4.heap.size 31 4 u11 o.length ((o.map bR).flatMap encR)) := by rw [hol]; exact Lib.hid (own_below HO.out (ha.trans (hst.mono (by omega))))
                have hy9 : Below w4.heap.size w4 w9 := hy0.trans (hst.mono (by omega))
                have yy9 := hy9.size
                go_wp2_with (at_builtin; go_must (refine wpList_append_own _ rfl (.tmp 54) (.tmp 58) 22 rfl w4.heap.size 31 inf0 _ 4 32 Tryd.underlying22 hi jz0 jz1 jz2 rfl (by decide) _ o.length _ rfl (own_below HO5.out (by (repeat' (first | with_reducible exact Below.refl _ _ | with_reducible assumption | with_reducible refine Below.drew ?_ | with_reducible refine below_drewN ?_ _ | with_reducible refine Below.setCell ?_ ?_ _ | with_reducible refine Below.alloc ?_ ?_ _ | omega | (simp; done) | (simp; omega))))) ⟨w9.heap.size, 0, none⟩ 1 1 [.int .i64 x.num, .int .i64 x.den, .int .i64 r.num, .int .i64 r.den] rfl rfl (World.news_of_block (cs := #[.int .i64 x.num, .int .i64 x.den, .int .i64 r.num, .int .i64 r.den]) (blk_new (by simp))) (by simp [Value.oneCell']) (by unfold maxLen; omega) (by omega) (by simp; omega) ?_); intro v' w9 hown9 hgrow9 _)
                go_roundw
                case rel =>
                  refine ⟨k + 1, o ++ [(x, r)], by omega, by simp; omega, by go_num, HOU, ?_, ?_⟩
                  · show World.ownsRow _ _ _ _ _ _ _
                    rw [List.map_append, List.flatMap_append]; simpa [encR, bR, hol] using hown9
                  · exact Below.grown (by (repeat' (first | with_reducible exact Below.refl _ _ | with_reducible assumption | with_reducible refine Below.drew ?_ | with_reducible refine below_drewN ?_ _ | with_reducible refine Below.setCell ?_ ?_ _ | with_reducible refine Below.alloc ?_ ?_ _ | omega | (simp; done) | (simp; omega)))) hgrow9 (by simp; omega) (fun g hg => (HO5.out.lt g hg).1)
                case measure => simp [intOf]; omega
        · obtain rfl : k = l.length := by omega
          have HOS : Hid (outsL addO gs ts l = some o) := by have h := hou.out; rw [List.drop_length] at h; show _ = _; rw [h]; simp [outsL]
          clear hou
          have hO1 : Own encR 4 31 w4.heap.size wr u11 (o.map bR) := by unfold Own; rw [List.length_map, hol]; exact HO.out
          obtain ⟨A6, c6, rfl, _, _, hrow⟩ := Own.rows (fun x _ => encR_len x) hO1
          rw [List.length_map] at *
          have HRO := Lib.hid hrow
          have hob : o.length ≤ 999 := by omega
          clear hO1 hrow HO hol
          go_wp2_with fail
          refine (fewest_any o A6 c6 _ HRO.out (Nat.le_succ_of_le hob)).mono ?_
          rintro e w6 ⟨⟨v6, rfl, hown⟩, hb6⟩
          have hw6 : Below w.heap.size w w6 := stepH hw0 hb6
          have z6 := hw6.size
          obtain ⟨A7, c7, rfl, _, _, _⟩ := Own.rows (fun x _ => encR_len x) hown
          have HO7 := Lib.hid (ownsRow_base (c := w.heap.size) hown z0)
          rw [List.length_map] at *
          clear hown hb6
          have HWL : Hid (withL addO gs ts l = if 32 < (normL o).length then [] else normL o) := by show _ = _; unfold withL; rw [HOS.out]
          have hnl : Hid (((normL o).map bR).length = (normL o).length) := Lib.hid (List.length_map _)
          have hnb : (normL o).length ≤ 1000 := Nat.le_trans (by unfold normL; split; exact Nat.le_add_left 1 o.length; exact Nat.le_trans (few_len 0 o) (Nat.le_succ _)) (show o.length + 1 ≤ 1000 by omega)
          generalize hN : normL o = N at *
          clear hN
          by_cases h32 : 32 < N.length
          · have HF := Lib.hid (HWL.out.trans (if_pos h32))
            have i32 : (32 : Int) < (N.length : Int) := by omega
            have hc' := (HE.out.below hw6).cell 2 (by decide)
            go_wp2_with fail
            have HV : ∀ W, Own encR 4 31 w.heap.size W (.slice none 0 0) ((withL addO gs ts l).map bR) := fun W => by rw [HF.out]; exact Own.nil
            go_quiet (fail)
            go_wp2_with fail
            go_ret2
            refine ⟨?_, by (repeat' (first | with_reducible exact Below.refl _ _ | with_reducible assumption | with_reducible refine Below.drew ?_ | with_reducible refine below_drewN ?_ _ | with_reducible refine Below.setCell ?_ ?_ _ | with_reducible refine Below.alloc ?_ ?_ _ | omega | (simp; done) | (simp; omega)))⟩
            first | exact ⟨_, _, l, rfl, HIS.out, HV _⟩ | exact ⟨_, ⟨_, rfl⟩, l, HIS.out, HV _⟩
          · have HF := Lib.hid (HWL.out.trans (if_neg h32))
            have i32 : ¬ (32 : Int) < (N.length : Int) := by omega
            have HV : ∀ _ : Unit, Own encR 4 31 w.heap.size w6 (.slice A7 N.length c7) ((withL addO gs ts l).map bR) := fun _ => by rw [HF.out]; unfold Own; rw [hnl.out]; exact HO7.out
            go_wp2_with fail
            go_ret2
            refine ⟨?_, by (repeat' (first | with_reducible exact Below.refl _ _ | with_reducible assumption | with_reducible refine Below.drew ?_ | with_reducible refine below_drewN ?_ _ | with_reducible refine Below.setCell ?_ ?_ _ | with_reducible refine Below.alloc ?_ ?_ _ | omega | (simp; done) | (simp; omega)))⟩
            first | exact ⟨_, _, l, rfl, HIS.out, HV ()⟩ | exact ⟨_, ⟨_, rfl⟩, l, HIS.out, HV ()⟩

end Go.Proofs.YtmankldedhgdiaaDoor
