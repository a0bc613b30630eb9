/- LineJoins: the way of two timelines: walk. -/
import Derived.Test.YtjcdlhplflmneaaDoorNormF
namespace Go.Proofs.YtjcdlhplflmneaaDoor
open Go.RowKit

theorem keepB6 {B : Nat} {W w1 : World} (hb : Below B W w1) {g : Nat} {x : Obj} (hg : g < B) (h : W.heap[g]? = some x) : Hid (w1.heap[g]? = some x) := (hb.block g hg).trans h

set_option maxRecDepth 100000 in
set_option maxHeartbeats 32000000 in
theorem joins_good (l k : List (Pc Int)) (A B : Option Addr) (c d : Nat) (nn : Bool) (n : Int) (w : World) (hl : RowAt encP 3 w w.heap.size A l) (hk : RowAt encP 3 w w.heap.size B k) (hg : GoodL l) (hh : GoodL k) :
    Calls Tryd.prog 6 #[.slice A l.length c, .slice B k.length d, .bool nn, .int .i64 n] w fun e w' => e = .returned (.bool true) ∧ Below w.heap.size w w' := by
  have HL := Lib.hid hl
  have HK := Lib.hid hk
  have h1 := hg.1
  have h2 := hh.1
  have HV := Lib.hid hg.2
  have HV2 := Lib.hid hh.2
  obtain ⟨inf0, hi, jz0, jz1, jz2⟩ := info_parts infoR6
  have hd : decide ((200 : Int) < (l.length : Int)) = false := decide_eq_false (by omega)
  have hd2 : decide ((200 : Int) < (k.length : Int)) = false := decide_eq_false (by omega)
  clear hl hk hg hh
  go_enter Tryd.func6, Tryd.ntmps6
  go_wp2_with fail
  refine (first6_any _).mono ?_
  rintro e w1 ⟨rfl, hb1⟩
  have hw1 : Below w.heap.size w w1 := stepH (by (repeat' (first | with_reducible exact Below.refl _ _ | with_reducible assumption | with_reducible refine Below.drew ?_ | with_reducible refine below_drewN ?_ _ | with_reducible refine Below.setCell ?_ ?_ _ | with_reducible refine Below.alloc ?_ ?_ _ | omega | (simp; done) | (simp; omega)))) hb1
  have NB := keepH hb1 (g := w.heap.size) (blk_new rfl)
  clear hb1
  go_wp2_with fail
  refine (known_ok l A c _ ((HL.out.below hw1 (Nat.le_refl _)).more hw1.size) h1 HV.out).mono ?_
  rintro e w2 ⟨⟨A2, c2, x, rfl, hrow2, hmx⟩, hb2⟩
  have hw2 : Below w.heap.size w w2 := stepH (by (repeat' (first | with_reducible exact Below.refl _ _ | with_reducible assumption | with_reducible refine Below.drew ?_ | with_reducible refine below_drewN ?_ _ | with_reducible refine Below.setCell ?_ ?_ _ | with_reducible refine Below.alloc ?_ ?_ _ | omega | (simp; done) | (simp; omega)))) hb2
  replace NB := keepH hb2 NB.out
  have z2 := hw2.size
  have HX := Lib.hid hrow2
  have HMX := Lib.hid hmx
  have hxl : x.length ≤ 400 := by have h := hmx.len; omega
  clear hb2 hw1 hrow2 hmx
  go_wp2_with fail
  refine (known_ok k B d _ ((HK.out.below hw2 (Nat.le_refl _)).more hw2.size) h2 HV2.out).mono ?_
  rintro e w3 ⟨⟨A3, c3, y, rfl, hrow3, hmy⟩, hb3⟩
  have hw3 : Below w.heap.size w w3 := stepH (by (repeat' (first | with_reducible exact Below.refl _ _ | with_reducible assumption | with_reducible refine Below.drew ?_ | with_reducible refine below_drewN ?_ _ | with_reducible refine Below.setCell ?_ ?_ _ | with_reducible refine Below.alloc ?_ ?_ _ | omega | (simp; done) | (simp; omega)))) hb3
  replace NB := keepH hb3 NB.out
  have z3 := hw3.size
  have HY := Lib.hid hrow3
  have HX3 := Lib.hid ((HX.out.below hb3 (Nat.le_refl _)).more hb3.size)
  have HMY := Lib.hid hmy
  have hyl : y.length ≤ 400 := by have h := hmy.len; omega
  clear hb3 hw2 hrow3 hmy HX z2
  go_wp2_with fail
  refine (piecesL_any l A c _ ((HL.out.below hw3 (Nat.le_refl _)).more hw3.size) (by omega)).mono ?_
  rintro e w4 ⟨⟨A4, c4, rfl, hrow4⟩, hb4⟩
  have hw4 : Below w.heap.size w w4 := stepH (by (repeat' (first | with_reducible exact Below.refl _ _ | with_reducible assumption | with_reducible refine Below.drew ?_ | with_reducible refine below_drewN ?_ _ | with_reducible refine Below.setCell ?_ ?_ _ | with_reducible refine Below.alloc ?_ ?_ _ | omega | (simp; done) | (simp; omega)))) hb4
  have hv4 : Below w3.heap.size w3 w4 := hb4
  replace NB := keepH hb4 NB.out
  clear hb4
  go_wp2_with fail
  refine (make6_ok l A4 c4 _ hrow4 (by omega) HV.out).mono ?_
  rintro e w5 ⟨⟨A5, c5, x5, rfl, hrow5, hA5, hm5⟩, hb5⟩
  obtain rfl := hm5.uniq HMX.out
  have hw5 : Below w.heap.size w w5 := stepH (by (repeat' (first | with_reducible exact Below.refl _ _ | with_reducible assumption | with_reducible refine Below.drew ?_ | with_reducible refine below_drewN ?_ _ | with_reducible refine Below.setCell ?_ ?_ _ | with_reducible refine Below.alloc ?_ ?_ _ | omega | (simp; done) | (simp; omega)))) hb5
  have hv5 : Below w3.heap.size w3 w5 := stepH (by (repeat' (first | with_reducible exact Below.refl _ _ | with_reducible assumption | with_reducible refine Below.drew ?_ | with_reducible refine below_drewN ?_ _ | with_reducible refine Below.setCell ?_ ?_ _ | with_reducible refine Below.alloc ?_ ?_ _ | omega | (simp; done) | (simp; omega)))) hb5
  have zv5 := hv5.size
  replace NB := keepH hb5 NB.out
  have z5 := hw5.size
  have HR5 := Lib.hid hrow5
  clear hb5 hw4 hv4 hrow4 hrow5 hm5 hA5
  go_wp2_with fail
  refine (piecesL_any k B d _ ((HK.out.below (by (repeat' (first | with_reducible exact Below.refl _ _ | with_reducible assumption | with_reducible refine Below.drew ?_ | with_reducible refine below_drewN ?_ _ | with_reducible refine Below.setCell ?_ ?_ _ | with_reducible refine Below.alloc ?_ ?_ _ | omega | (simp; done) | (simp; omega)))) (Nat.le_refl _)).more (by simp; omega)) (by omega)).mono ?_
  rintro e w6 ⟨⟨A6, c6, rfl, hrow6⟩, hb6⟩
  have hw6 : Below w.heap.size w w6 := stepH (by (repeat' (first | with_reducible exact Below.refl _ _ | with_reducible assumption | with_reducible refine Below.drew ?_ | with_reducible refine below_drewN ?_ _ | with_reducible refine Below.setCell ?_ ?_ _ | with_reducible refine Below.alloc ?_ ?_ _ | omega | (simp; done) | (simp; omega)))) hb6
  have hv6 : Below w3.heap.size w3 w6 := stepH (by (repeat' (first | with_reducible exact Below.refl _ _ | with_reducible assumption | with_reducible refine Below.drew ?_ | with_reducible refine below_drewN ?_ _ | with_reducible refine Below.setCell ?_ ?_ _ | with_reducible refine Below.alloc ?_ ?_ _ | omega | (simp; done) | (simp; omega)))) hb6
  have hu6 : Below w5.heap.size w5 w6 := stepH (by (repeat' (first | with_reducible exact Below.refl _ _ | with_reducible assumption | with_reducible refine Below.drew ?_ | with_reducible refine below_drewN ?_ _ | with_reducible refine Below.setCell ?_ ?_ _ | with_reducible refine Below.alloc ?_ ?_ _ | omega | (simp; done) | (simp; omega)))) hb6
  replace NB := keepH hb6 (blk_old NB.out)
  have TA := keepH hb6 (g := w5.heap.size) (blk_new rfl)
  have z6 := hw6.size
  clear hb6 hw5 hv5
  go_wp2_with fail
  refine (make6_ok k A6 c6 _ hrow6 (by omega) HV2.out).mono ?_
  rintro e w7 ⟨⟨A7, c7, y7, rfl, hrow7, hA7, hm7⟩, hb7⟩
  obtain rfl := hm7.uniq HMY.out
  have hw7 : Below w.heap.size w w7 := stepH (by (repeat' (first | with_reducible exact Below.refl _ _ | with_reducible assumption | with_reducible refine Below.drew ?_ | with_reducible refine below_drewN ?_ _ | with_reducible refine Below.setCell ?_ ?_ _ | with_reducible refine Below.alloc ?_ ?_ _ | omega | (simp; done) | (simp; omega)))) hb7
  have hv7 : Below w3.heap.size w3 w7 := stepH (by (repeat' (first | with_reducible exact Below.refl _ _ | with_reducible assumption | with_reducible refine Below.drew ?_ | with_reducible refine below_drewN ?_ _ | with_reducible refine Below.setCell ?_ ?_ _ | with_reducible refine Below.alloc ?_ ?_ _ | omega | (simp; done) | (simp; omega)))) hb7
  have hu7 : Below w5.heap.size w5 w7 := stepH (by (repeat' (first | with_reducible exact Below.refl _ _ | with_reducible assumption | with_reducible refine Below.drew ?_ | with_reducible refine below_drewN ?_ _ | with_reducible refine Below.setCell ?_ ?_ _ | with_reducible refine Below.alloc ?_ ?_ _ | omega | (simp; done) | (simp; omega)))) hb7
  replace NB := keepH hb7 NB.out
  replace TA := keepH hb7 TA.out
  have cTA := cellH TA
  have z7 := hw7.size
  have HR7 := Lib.hid hrow7
  have lTA := lt_of_H TA
  clear hb7 hw6 hv6 hu6 hrow6 hrow7 hm7 hA7
  have NB7 := Lib.hid (blk_old (o := .cells #[.slice A7 y7.length c7] 61) NB.out)
  go_wp2_with fail
  refine (join6_any x5 y7 A5 A7 c5 c7 40 #[.pointer (some ⟨w.heap.size, 0, none⟩)] (joinsF nn) _ ((HR5.out.below (by (repeat' (first | with_reducible exact Below.refl _ _ | with_reducible assumption | with_reducible refine Below.drew ?_ | with_reducible refine below_drewN ?_ _ | with_reducible refine Below.setCell ?_ ?_ _ | with_reducible refine Below.alloc ?_ ?_ _ | omega | (simp; done) | (simp; omega)))) (Nat.le_refl _)).more (by simp; omega)) ((HR7.out.below (by (repeat' (first | with_reducible exact Below.refl _ _ | with_reducible assumption | with_reducible refine Below.drew ?_ | with_reducible refine below_drewN ?_ _ | with_reducible refine Below.setCell ?_ ?_ _ | with_reducible refine Below.alloc ?_ ?_ _ | omega | (simp; done) | (simp; omega)))) (Nat.le_refl _)).more (by simp)) (by omega) (by omega) HMX.out.canon.rise HMY.out.canon.rise (enters_of Tryd.func40 (by kernel_rfl) rfl) (fun u v W hW => joins1_any nn w.heap.size u v W (keepH hW NB7.out))).mono ?_
  rintro e w8 ⟨⟨A8, c8, rj, rfl, hrow8, hA8, _, hq⟩, hb8⟩
  obtain ⟨hcj, hvj⟩ := join_spec (joinsF nn) (cutsL_days x5 y7) (by decide) HMX.out.canon.rise HMY.out.canon.rise HMX.out.canon.upTo HMY.out.canon.upTo
  rw [← hq] at hcj hvj
  have hw8 : Below w.heap.size w w8 := stepH (by (repeat' (first | with_reducible exact Below.refl _ _ | with_reducible assumption | with_reducible refine Below.drew ?_ | with_reducible refine below_drewN ?_ _ | with_reducible refine Below.setCell ?_ ?_ _ | with_reducible refine Below.alloc ?_ ?_ _ | omega | (simp; done) | (simp; omega)))) hb8
  have hv8 : Below w3.heap.size w3 w8 := stepH (by (repeat' (first | with_reducible exact Below.refl _ _ | with_reducible assumption | with_reducible refine Below.drew ?_ | with_reducible refine below_drewN ?_ _ | with_reducible refine Below.setCell ?_ ?_ _ | with_reducible refine Below.alloc ?_ ?_ _ | omega | (simp; done) | (simp; omega)))) hb8
  have z8 := hw8.size
  have zv8 := hv8.size
  replace NB := keepH hb8 NB7.out
  have hjl : rj.length ≤ 2000 := by
    have h := joinedL_len (joinP (fun n => joinsF nn (valL x5 n) (valL y7 n)) (cutsL x5 y7))
    have h' := joinP_len (fun n => joinsF nn (valL x5 n) (valL y7 n)) (cutsL x5 y7)
    have h'' := cutsL_len x5 y7
    rw [← hq] at h
    omega
  have HR8 := Lib.hid hrow8
  have HQ := Lib.hid hq
  have HCJ := Lib.hid hcj
  have HA8 := Lib.hid hA8
  clear hb8 hw7 hv7 hu7 hrow8 hq hcj hvj NB7 TA cTA lTA HR5 HR7 hA8
  go_wp2_with fail
  refine (cutsR_any x5 [0, MD] A2 c2 (.slice (some ⟨w8.heap.size + 1, 0, none⟩) 2 2) (w8.heap.size + 1) _ (by simp) ((HX3.out.below (by (repeat' (first | with_reducible exact Below.refl _ _ | with_reducible assumption | with_reducible refine Below.drew ?_ | with_reducible refine below_drewN ?_ _ | with_reducible refine Below.setCell ?_ ?_ _ | with_reducible refine Below.alloc ?_ ?_ _ | omega | (simp; done) | (simp; omega)))) (Nat.le_refl _)).more (by omega)) (built_own (cs := #[.int .i64 0, .int .i64 3652059]) (by simp) (Nat.le_refl _) (by unfold maxLen; omega) rfl) (by omega) (by simp)).mono ?_
  rintro e w9 ⟨⟨v9, rfl, hown9⟩, hb9⟩
  have NB8 := Lib.hid (blk_old (o := .cells #[.int .i64 0, .int .i64 3652059] 3) (blk_old (o := .cells #[.slice A8 rj.length c8] 61) NB.out))
  have TJ8 : Hid (((w8.alloc (.cells #[.slice A8 rj.length c8] 61)).alloc (.cells #[.int .i64 0, .int .i64 3652059] 3)).heap[w8.heap.size]? = some (.cells #[.slice A8 rj.length c8] 61 (0, 0))) := blk_old (blk_new rfl)
  have hu8 : Below w8.heap.size w8 ((w8.alloc (.cells #[.slice A8 rj.length c8] 61)).alloc (.cells #[.int .i64 0, .int .i64 3652059] 3)) := by (repeat' (first | with_reducible exact Below.refl _ _ | with_reducible assumption | with_reducible refine Below.drew ?_ | with_reducible refine below_drewN ?_ _ | with_reducible refine Below.setCell ?_ ?_ _ | with_reducible refine Below.alloc ?_ ?_ _ | omega | (simp; done) | (simp; omega)))
  have hw9 : Below w.heap.size w w9 := Below.trans (b := (w8.alloc (.cells #[.slice A8 rj.length c8] 61)).alloc (.cells #[.int .i64 0, .int .i64 3652059] 3)) (by (repeat' (first | with_reducible exact Below.refl _ _ | with_reducible assumption | with_reducible refine Below.drew ?_ | with_reducible refine below_drewN ?_ _ | with_reducible refine Below.setCell ?_ ?_ _ | with_reducible refine Below.alloc ?_ ?_ _ | omega | (simp; done) | (simp; omega)))) (hb9.mono (by omega))
  have hv9 : Below w3.heap.size w3 w9 := Below.trans (b := (w8.alloc (.cells #[.slice A8 rj.length c8] 61)).alloc (.cells #[.int .i64 0, .int .i64 3652059] 3)) (by (repeat' (first | with_reducible exact Below.refl _ _ | with_reducible assumption | with_reducible refine Below.drew ?_ | with_reducible refine below_drewN ?_ _ | with_reducible refine Below.setCell ?_ ?_ _ | with_reducible refine Below.alloc ?_ ?_ _ | omega | (simp; done) | (simp; omega)))) (hb9.mono (by omega))
  have hu9 : Below w8.heap.size w8 w9 := hu8.trans (hb9.mono (by omega))
  have NB9 := keepB6 hb9 (by omega) NB8.out
  have TJ9 := keepB6 hb9 (by omega) TJ8.out
  have z9 : w8.heap.size + 1 ≤ w9.heap.size := by have h := hb9.size; simp at h; omega
  have HO9 := Lib.hid hown9
  clear hb9 hown9 NB NB8 TJ8 hu8 hw8 hv8
  go_wp2_with fail
  refine (cutsR_any y7 (cutsR x5 [0, MD]) A3 c3 v9 (w8.heap.size + 1) _ z9 ((HY.out.below hv9 (Nat.le_refl _)).more (by omega)) HO9.out (by omega) (by have h := cutsR_len x5 [0, MD]; simp at h; omega)).mono ?_
  rintro e w10 ⟨⟨v10, rfl, hown10⟩, hb10⟩
  have hdays := cutsR_days x5 y7
  have hdl : (cutsR y7 (cutsR x5 [0, MD])).length ≤ 5000 := by have h := cutsR_len x5 [0, MD]; have h' := cutsR_len y7 (cutsR x5 [0, MD]); simp at h; omega
  generalize cutsR y7 (cutsR x5 [0, MD]) = ds at *
  have hw10 : Below w.heap.size w w10 := hw9.trans (hb10.mono (by omega))
  have hv10 : Below w3.heap.size w3 w10 := hv9.trans (hb10.mono (by omega))
  have hu10 : Below w8.heap.size w8 w10 := hu9.trans (hb10.mono (by omega))
  have NB := keepB6 hb10 (by omega) NB9.out
  have TJ := keepB6 hb10 (by omega) TJ9.out
  have z10 : w8.heap.size + 1 ≤ w10.heap.size := by have h := hb10.size; omega
  obtain ⟨A1, c1, rfl, hr1, _, _⟩ := own_line (fun x _ => encI_len x) hown10
  have hoff : ∀ a, A1 = some a → a.off = 0 := fun a ha => by
    rcases hown10.2 with ⟨h, _⟩ | ⟨g, cp, cur, h, _⟩
    · injection h with h1; rw [ha] at h1; cases h1
    · injection h with h1; rw [ha] at h1; cases h1; rfl
  have HD := Lib.hid hr1
  have HDY := Lib.hid hdays
  obtain ⟨g0, hg0⟩ : ∃ g0 : Int → Option Int, (fun n => joinsF nn (valL x5 n) (valL y7 n)) = g0 := ⟨_, rfl⟩
  have HG := Lib.hid hg0
  have HXT := Lib.hid (fun (n : Int) (w' : World) (h : Below w10.heap.size w10 w') => refAt6_any x5 A2 c2 n w' ((HX3.out.below (hv10.trans (h.mono hv10.size)) (Nat.le_refl _)).more (by have := hv10.size; have := h.size; omega)) (by omega))
  have HYT := Lib.hid (fun (n : Int) (w' : World) (h : Below w10.heap.size w10 w') => refAt6_any y7 A3 c3 n w' ((HY.out.below (hv10.trans (h.mono hv10.size)) (Nat.le_refl _)).more (by have := hv10.size; have := h.size; omega)) (by omega))
  clear hb10 hown10 hr1 hdays hg0 NB9 TJ9 hw9 hv9 hu9 HO9 z9
  go_wp2_with fail
  go_loopw [20, 21] (fun u i wr => ∃ (k : Nat) (out : List (Pc Int)), out.length ≤ k ∧ (k = 0 ∨ k < ds.length) ∧ i = .int .i64 k ∧ Own encP 3 81 w10.heap.size wr u out ∧ Hid (out ++ joinP g0 (ds.drop k) = joinP g0 ds) ∧ Below w10.heap.size w10 wr) (fun _ i _ => ds.length - (intOf i).toNat)
  case atStart => exact ⟨0, [], Nat.le_refl _, .inl rfl, rfl, Own.nil, (by show _ = _; rw [List.nil_append, List.drop_zero]), Below.refl _ _⟩
  case round =>
    obtain ⟨k, out, ho, hk, rfl, hown, hJ, hwr⟩ := hrel
    have zr := hwr.size
    have hw0 : Below w.heap.size w wr := stepH hw10 hwr
    have HO := Lib.hid hown
    have NBr := keepH hwr NB.out
    by_cases hlt : k + 1 < ds.length
    · obtain ⟨a, ha⟩ : ∃ a, ds[k]? = some a := ⟨ds[k], List.getElem?_eq_getElem (by omega)⟩
      obtain ⟨b, hb⟩ : ∃ b, ds[k + 1]? = some b := ⟨ds[k + 1], List.getElem?_eq_getElem hlt⟩
      obtain ⟨gd, od, e0, hgl, hca0⟩ := HD.out k a ha
      subst e0
      obtain rfl : od = 0 := hoff _ rfl
      obtain ⟨_, _, e1, _, hca⟩ := (HD.out.below hwr (Nat.le_refl _)) k a ha
      cases e1
      obtain ⟨_, _, e1, _, hcb⟩ := (HD.out.below hwr (Nat.le_refl _)) (k + 1) b hb
      cases e1
      have k0 : wr.cell? ⟨gd, k, none⟩ = some (.int .i64 a) := by have := hca 0 _ rfl; simpa using this
      have k1 : wr.cell? ⟨gd, k + 1, none⟩ = some (.int .i64 b) := by have := hcb 0 _ rfl; simpa using this
      have hlt2 : (k : Int) + 1 < (ds.length : Int) := by omega
      have i1 : (k : Int) < (ds.length : Int) := by omega
      have i4 : ((k : Int) + 1).toNat = k + 1 := by omega
      have i5 : (0 : Int) ≤ (k : Int) + 1 := by omega
      have i2 : (0 : Int) ≤ (k : Int) := by omega
      have i6 : ((k : Int)).toNat = k := by omega
      have i7 : IntKind.i64.wrap ((k : Int) + 1) = (k : Int) + 1 := by rw [IntKind.wrap_i64]; omega
      have HA := Lib.hid ha
      have HB := Lib.hid hb
      obtain ⟨o1, ho1⟩ : ∃ o, valL x5 a = o := ⟨_, rfl⟩
      obtain ⟨o2, ho2⟩ : ∃ o, valL y7 a = o := ⟨_, rfl⟩
      have HV1 := Lib.hid ((HMX.out.canon.rise.rev a).trans ho1)
      have HV2' := Lib.hid ((HMY.out.canon.rise.rev a).trans ho2)
      have HGA : Hid (g0 a = joinsF nn o1 o2) := by show _ = _; rw [← HG.out, ← ho1, ← ho2]
      have HST := Lib.hid (joinP_step (g := g0) ha hb)
      clear hca hca0 hcb ha hb hown ho1 ho2
      go_wp2_with fail
      refine (HXT.out a _ (by (repeat' (first | with_reducible exact Below.refl _ _ | with_reducible assumption | with_reducible refine Below.drew ?_ | with_reducible refine below_drewN ?_ _ | with_reducible refine Below.setCell ?_ ?_ _ | with_reducible refine Below.alloc ?_ ?_ _ | omega | (simp; done) | (simp; omega))))).mono ?_
      rintro e w11 ⟨rfl, hb11⟩
      rw [HV1.out]
      have hw11 : Below w.heap.size w w11 := stepH (by (repeat' (first | with_reducible exact Below.refl _ _ | with_reducible assumption | with_reducible refine Below.drew ?_ | with_reducible refine below_drewN ?_ _ | with_reducible refine Below.setCell ?_ ?_ _ | with_reducible refine Below.alloc ?_ ?_ _ | omega | (simp; done) | (simp; omega)))) hb11
      have hr11 : Below w10.heap.size w10 w11 := stepH (by (repeat' (first | with_reducible exact Below.refl _ _ | with_reducible assumption | with_reducible refine Below.drew ?_ | with_reducible refine below_drewN ?_ _ | with_reducible refine Below.setCell ?_ ?_ _ | with_reducible refine Below.alloc ?_ ?_ _ | omega | (simp; done) | (simp; omega)))) hb11
      replace k0 := cellOf hb11 k0
      replace k1 := cellOf hb11 k1
      have HO11 := Lib.hid (own_below HO.out hb11)
      replace NBr := keepH hb11 NBr.out
      clear hb11 HO
      go_wp2_with fail
      refine (HYT.out a _ (by (repeat' (first | with_reducible exact Below.refl _ _ | with_reducible assumption | with_reducible refine Below.drew ?_ | with_reducible refine below_drewN ?_ _ | with_reducible refine Below.setCell ?_ ?_ _ | with_reducible refine Below.alloc ?_ ?_ _ | omega | (simp; done) | (simp; omega))))).mono ?_
      rintro e w12 ⟨rfl, hb12⟩
      rw [HV2'.out]
      have hw12 : Below w.heap.size w w12 := stepH (by (repeat' (first | with_reducible exact Below.refl _ _ | with_reducible assumption | with_reducible refine Below.drew ?_ | with_reducible refine below_drewN ?_ _ | with_reducible refine Below.setCell ?_ ?_ _ | with_reducible refine Below.alloc ?_ ?_ _ | omega | (simp; done) | (simp; omega)))) hb12
      have hr12 : Below w10.heap.size w10 w12 := stepH (by (repeat' (first | with_reducible exact Below.refl _ _ | with_reducible assumption | with_reducible refine Below.drew ?_ | with_reducible refine below_drewN ?_ _ | with_reducible refine Below.setCell ?_ ?_ _ | with_reducible refine Below.alloc ?_ ?_ _ | omega | (simp; done) | (simp; omega)))) hb12
      replace k0 := cellOf hb12 k0
      replace k1 := cellOf hb12 k1
      have HO12 := Lib.hid (own_below HO11.out hb12)
      replace NBr := keepH hb12 NBr.out
      have z12 := hr12.size
      clear hb12 HO11 hw11 hr11
      have e1 : vB6 (none : Option Int) = false := rfl
      have n1 : vN (none : Option Int) = 0 := rfl
      cases o1 with
      | some v =>
        have e2 : vB6 (some v) = true := rfl
        have n2 : vN (some v) = v := rfl
        cases o2 with
        | some u =>
          have e3 : vB6 (some u) = true := rfl
          have n3 : vN (some u) = u := rfl
          rw [e2, e3, n2, n3]
          go_wp2_with fail
          go_region_held3 (fun w' => w'.cell? ⟨gd, k, none⟩ = some (.int .i64 a) ∧ w'.cell? ⟨gd, k + 1, none⟩ = some (.int .i64 b)) (first | with_reducible exact ⟨k0, k1⟩ | go_keep) (fail)
          have HOW := Lib.hid HO12.out
          go_wp2_with (at_builtin; go_must (refine wpList_append_own _ rfl (.tmp 146) (.tmp 148) 66 rfl w10.heap.size 81 inf0 _ 3 24 Tryd.underlying66 hi jz0 jz1 jz2 rfl (by decide) _ out.length _ rfl (own_below HO12.out (by (repeat' (first | with_reducible exact Below.refl _ _ | with_reducible assumption | with_reducible refine Below.drew ?_ | with_reducible refine below_drewN ?_ _ | with_reducible refine Below.setCell ?_ ?_ _ | with_reducible refine Below.alloc ?_ ?_ _ | omega | (simp; done) | (simp; omega))))) ⟨w12.heap.size + 1, 0, none⟩ 1 1 [.int .i64 a, .int .i64 b, .int .i64 (wrap64 (v - u))] rfl rfl (World.news_of_block (cs := #[.int .i64 a, .int .i64 b, .int .i64 (wrap64 (v - u))]) (blk_new (by simp))) (by simp [Value.oneCell']) (by unfold maxLen; omega) (by omega) (by simp; omega) ?_); intro v' w9 hown9 hgrow9 _)
          go_roundw
          case rel =>
            refine ⟨k + 1, out ++ [⟨a, b, (wrap64 (v - u))⟩], (by simp only [List.length_append, List.length_cons, List.length_nil]; omega), .inr hlt, by go_num, Own.snoc hown9 (by simp) (by simp [encP]), ?_, Below.grown (by (repeat' (first | with_reducible exact Below.refl _ _ | with_reducible assumption | with_reducible refine Below.drew ?_ | with_reducible refine below_drewN ?_ _ | with_reducible refine Below.setCell ?_ ?_ _ | with_reducible refine Below.alloc ?_ ?_ _ | omega | (simp; done) | (simp; omega)))) hgrow9 (by simp; omega) (fun g hg => (HO12.out.lt g hg).1)⟩
            show _ = _
            have h := hJ.out
            rw [HST.out, HGA.out] at h
            rw [List.append_assoc]
            exact h
          case measure => simp [intOf]; omega
        | none =>
          rw [e2, n2, e1, n1]
          go_wp2_with fail
          go_region_held3 (fun w' => w'.cell? ⟨gd, k, none⟩ = some (.int .i64 a) ∧ w'.cell? ⟨gd, k + 1, none⟩ = some (.int .i64 b)) (first | with_reducible exact ⟨k0, k1⟩ | go_keep) (fail)
          have HOW := Lib.hid HO12.out
          go_wp2_with (at_builtin; go_must (refine wpList_append_own _ rfl (.tmp 146) (.tmp 148) 66 rfl w10.heap.size 81 inf0 _ 3 24 Tryd.underlying66 hi jz0 jz1 jz2 rfl (by decide) _ out.length _ rfl (own_below HO12.out (by (repeat' (first | with_reducible exact Below.refl _ _ | with_reducible assumption | with_reducible refine Below.drew ?_ | with_reducible refine below_drewN ?_ _ | with_reducible refine Below.setCell ?_ ?_ _ | with_reducible refine Below.alloc ?_ ?_ _ | omega | (simp; done) | (simp; omega))))) ⟨w12.heap.size + 1, 0, none⟩ 1 1 [.int .i64 a, .int .i64 b, .int .i64 (wrap64 (wrap64 v - 1000000))] rfl rfl (World.news_of_block (cs := #[.int .i64 a, .int .i64 b, .int .i64 (wrap64 (wrap64 v - 1000000))]) (blk_new (by simp))) (by simp [Value.oneCell']) (by unfold maxLen; omega) (by omega) (by simp; omega) ?_); intro v' w9 hown9 hgrow9 _)
          go_roundw
          case rel =>
            refine ⟨k + 1, out ++ [⟨a, b, (wrap64 (wrap64 v - 1000000))⟩], (by simp only [List.length_append, List.length_cons, List.length_nil]; omega), .inr hlt, by go_num, Own.snoc hown9 (by simp) (by simp [encP]), ?_, Below.grown (by (repeat' (first | with_reducible exact Below.refl _ _ | with_reducible assumption | with_reducible refine Below.drew ?_ | with_reducible refine below_drewN ?_ _ | with_reducible refine Below.setCell ?_ ?_ _ | with_reducible refine Below.alloc ?_ ?_ _ | omega | (simp; done) | (simp; omega)))) hgrow9 (by simp; omega) (fun g hg => (HO12.out.lt g hg).1)⟩
            show _ = _
            have h := hJ.out
            rw [HST.out, HGA.out] at h
            rw [List.append_assoc]
            exact h
          case measure => simp [intOf]; omega
      | none =>
        cases o2 with
        | some u =>
          have e3 : vB6 (some u) = true := rfl
          have n3 : vN (some u) = u := rfl
          rw [e1, e3, n1, n3]
          go_wp2_with fail
          go_region_held3 (fun w' => w'.cell? ⟨gd, k, none⟩ = some (.int .i64 a) ∧ w'.cell? ⟨gd, k + 1, none⟩ = some (.int .i64 b)) (first | with_reducible exact ⟨k0, k1⟩ | go_keep) (fail)
          have HOW := Lib.hid HO12.out
          go_wp2_with (at_builtin; go_must (refine wpList_append_own _ rfl (.tmp 146) (.tmp 148) 66 rfl w10.heap.size 81 inf0 _ 3 24 Tryd.underlying66 hi jz0 jz1 jz2 rfl (by decide) _ out.length _ rfl (own_below HO12.out (by (repeat' (first | with_reducible exact Below.refl _ _ | with_reducible assumption | with_reducible refine Below.drew ?_ | with_reducible refine below_drewN ?_ _ | with_reducible refine Below.setCell ?_ ?_ _ | with_reducible refine Below.alloc ?_ ?_ _ | omega | (simp; done) | (simp; omega))))) ⟨w12.heap.size + 1, 0, none⟩ 1 1 [.int .i64 a, .int .i64 b, .int .i64 (wrap64 (wrap64 u - 1000000))] rfl rfl (World.news_of_block (cs := #[.int .i64 a, .int .i64 b, .int .i64 (wrap64 (wrap64 u - 1000000))]) (blk_new (by simp))) (by simp [Value.oneCell']) (by unfold maxLen; omega) (by omega) (by simp; omega) ?_); intro v' w9 hown9 hgrow9 _)
          go_roundw
          case rel =>
            refine ⟨k + 1, out ++ [⟨a, b, (wrap64 (wrap64 u - 1000000))⟩], (by simp only [List.length_append, List.length_cons, List.length_nil]; omega), .inr hlt, by go_num, Own.snoc hown9 (by simp) (by simp [encP]), ?_, Below.grown (by (repeat' (first | with_reducible exact Below.refl _ _ | with_reducible assumption | with_reducible refine Below.drew ?_ | with_reducible refine below_drewN ?_ _ | with_reducible refine Below.setCell ?_ ?_ _ | with_reducible refine Below.alloc ?_ ?_ _ | omega | (simp; done) | (simp; omega)))) hgrow9 (by simp; omega) (fun g hg => (HO12.out.lt g hg).1)⟩
            show _ = _
            have h := hJ.out
            rw [HST.out, HGA.out] at h
            rw [List.append_assoc]
            exact h
          case measure => simp [intOf]; omega
        | none =>
          rw [e1, n1]
          have cNB := cellH NBr
          have lNB := lt_of_H NBr
          cases nn with
          | true =>
            go_wp2_with fail
            go_region_held3 (fun w' => w'.cell? ⟨gd, k, none⟩ = some (.int .i64 a) ∧ w'.cell? ⟨gd, k + 1, none⟩ = some (.int .i64 b)) (first | with_reducible exact ⟨k0, k1⟩ | go_keep) (fail)
            have HOW := Lib.hid HO12.out
            go_wp2_with (at_builtin; go_must (refine wpList_append_own _ rfl (.tmp 146) (.tmp 148) 66 rfl w10.heap.size 81 inf0 _ 3 24 Tryd.underlying66 hi jz0 jz1 jz2 rfl (by decide) _ out.length _ rfl (own_below HO12.out (by (repeat' (first | with_reducible exact Below.refl _ _ | with_reducible assumption | with_reducible refine Below.drew ?_ | with_reducible refine below_drewN ?_ _ | with_reducible refine Below.setCell ?_ ?_ _ | with_reducible refine Below.alloc ?_ ?_ _ | omega | (simp; done) | (simp; omega))))) ⟨w12.heap.size + 1, 0, none⟩ 1 1 [.int .i64 a, .int .i64 b, .int .i64 7] rfl rfl (World.news_of_block (cs := #[.int .i64 a, .int .i64 b, .int .i64 7]) (blk_new (by simp))) (by simp [Value.oneCell']) (by unfold maxLen; omega) (by omega) (by simp; omega) ?_); intro v' w9 hown9 hgrow9 _)
            go_roundw
            case rel =>
              refine ⟨k + 1, out ++ [⟨a, b, 7⟩], (by simp only [List.length_append, List.length_cons, List.length_nil]; omega), .inr hlt, by go_num, Own.snoc hown9 (by simp) (by simp [encP]), ?_, Below.grown (by (repeat' (first | with_reducible exact Below.refl _ _ | with_reducible assumption | with_reducible refine Below.drew ?_ | with_reducible refine below_drewN ?_ _ | with_reducible refine Below.setCell ?_ ?_ _ | with_reducible refine Below.alloc ?_ ?_ _ | omega | (simp; done) | (simp; omega)))) hgrow9 (by simp; omega) (fun g hg => (HO12.out.lt g hg).1)⟩
              show _ = _
              have h := hJ.out
              rw [HST.out, HGA.out] at h
              rw [List.append_assoc]
              exact h
            case measure => simp [intOf]; omega
          | false =>
            go_wp2_with fail
            go_region_held3 (fun w' => w'.cell? ⟨gd, k, none⟩ = some (.int .i64 a) ∧ w'.cell? ⟨gd, k + 1, none⟩ = some (.int .i64 b)) (first | with_reducible exact ⟨k0, k1⟩ | go_keep) (fail)
            go_wp2_with fail
            go_roundw
            case rel => exact ⟨k + 1, out, by omega, .inr hlt, by go_num, own_below HO12.out (by (repeat' (first | with_reducible exact Below.refl _ _ | with_reducible assumption | with_reducible refine Below.drew ?_ | with_reducible refine below_drewN ?_ _ | with_reducible refine Below.setCell ?_ ?_ _ | with_reducible refine Below.alloc ?_ ?_ _ | omega | (simp; done) | (simp; omega)))), (by show _ = _; have h := hJ.out; rw [HST.out, HGA.out] at h; exact h), by (repeat' (first | with_reducible exact Below.refl _ _ | with_reducible assumption | with_reducible refine Below.drew ?_ | with_reducible refine below_drewN ?_ _ | with_reducible refine Below.setCell ?_ ?_ _ | with_reducible refine Below.alloc ?_ ?_ _ | omega | (simp; done) | (simp; omega)))⟩
            case measure => simp [intOf]; omega
    · have HE : Hid (out = joinP g0 ds) := by
        show _ = _
        rw [← hJ.out]
        have h : ds.drop k = [] ∨ ∃ a, ds.drop k = [a] := by
          cases hd : ds.drop k with
          | nil => exact .inl rfl
          | cons a r =>
            have hlen : (ds.drop k).length = ds.length - k := List.length_drop
            rw [hd, List.length_cons] at hlen
            obtain rfl : r = [] := List.eq_nil_of_length_eq_zero (by omega)
            exact .inr ⟨a, rfl⟩
        rcases h with h | ⟨a, h⟩ <;> (rw [h]; simp [joinP])
      obtain ⟨A9, c9, rfl, hr9, _, _⟩ := own_line (fun x _ => encP_len x) HO.out
      have hlt2 : ¬ ((k : Int) + 1 < (ds.length : Int)) := by omega
      have i7 : IntKind.i64.wrap ((k : Int) + 1) = (k : Int) + 1 := by rw [IntKind.wrap_i64]; omega
      have HR9 := Lib.hid hr9
      have TJr := keepH hwr TJ.out
      have hur : Below w8.heap.size w8 wr := stepH hu10 hwr
      have hwant : out = joinP (fun n => joinsF nn (valL x5 n) (valL y7 n)) ds := by rw [HG.out]; exact HE.out
      have hvalid := joins_valid HMX.out.canon HMY.out.canon HDY.out hwant
      have hol : out.length ≤ 10000 := by
        have h := joinP_len g0 ds
        rw [← HE.out] at h
        omega
      have HWT := Lib.hid hwant
      have HVD := Lib.hid hvalid
      clear hr9 hown hJ HO hwant hvalid
      go_wp2_with fail
      refine (norm6_any out A9 c9 wr HR9.out hol HVD.out).mono ?_
      rintro e w11 ⟨⟨A11, c11, mm, rfl, hr11, hmm⟩, hb11⟩
      have hmj : mm = rj := by rw [HQ.out]; exact joins_law HMX.out.canon HMY.out.canon HDY.out HWT.out hmm
      subst hmj
      have hw11 : Below w.heap.size w w11 := stepH (by (repeat' (first | with_reducible exact Below.refl _ _ | with_reducible assumption | with_reducible refine Below.drew ?_ | with_reducible refine below_drewN ?_ _ | with_reducible refine Below.setCell ?_ ?_ _ | with_reducible refine Below.alloc ?_ ?_ _ | omega | (simp; done) | (simp; omega)))) hb11
      have hu11 : Below w8.heap.size w8 w11 := stepH (by (repeat' (first | with_reducible exact Below.refl _ _ | with_reducible assumption | with_reducible refine Below.drew ?_ | with_reducible refine below_drewN ?_ _ | with_reducible refine Below.setCell ?_ ?_ _ | with_reducible refine Below.alloc ?_ ?_ _ | omega | (simp; done) | (simp; omega)))) hb11
      have TJ11 := keepH hb11 TJr.out
      have cT := cellH TJ11
      have z11 := hw11.size
      have HR11 := Lib.hid hr11
      obtain ⟨o, ho9⟩ : ∃ o, valL mm n = o := ⟨_, rfl⟩
      have HO9 := Lib.hid ho9
      have HREV := Lib.hid ((HCJ.out.rise.rev n).trans ho9)
      clear hb11 hr11 hmm ho9
      go_wp2_with fail
      refine (At6_any mm A8 c8 n _ ((HR8.out.below (by (repeat' (first | with_reducible exact Below.refl _ _ | with_reducible assumption | with_reducible refine Below.drew ?_ | with_reducible refine below_drewN ?_ _ | with_reducible refine Below.setCell ?_ ?_ _ | with_reducible refine Below.alloc ?_ ?_ _ | omega | (simp; done) | (simp; omega)))) (Nat.le_refl _)).more hu11.size) (by omega) 0 HCJ.out.rise).mono ?_
      rintro e w12 ⟨rfl, hb12⟩
      rw [HO9.out]
      have hw12 : Below w.heap.size w w12 := stepH (by (repeat' (first | with_reducible exact Below.refl _ _ | with_reducible assumption | with_reducible refine Below.drew ?_ | with_reducible refine below_drewN ?_ _ | with_reducible refine Below.setCell ?_ ?_ _ | with_reducible refine Below.alloc ?_ ?_ _ | omega | (simp; done) | (simp; omega)))) hb12
      have hu12 : Below w8.heap.size w8 w12 := stepH (by (repeat' (first | with_reducible exact Below.refl _ _ | with_reducible assumption | with_reducible refine Below.drew ?_ | with_reducible refine below_drewN ?_ _ | with_reducible refine Below.setCell ?_ ?_ _ | with_reducible refine Below.alloc ?_ ?_ _ | omega | (simp; done) | (simp; omega)))) hb12
      have hx12 : Below w11.heap.size w11 w12 := hb12
      have TJ12 := keepH hb12 TJ11.out
      have cT2 := cellH TJ12
      clear hb12 cT
      go_wp2_with fail
      refine (refAt6_any mm A11 c11 n _ ((HR11.out.below (by (repeat' (first | with_reducible exact Below.refl _ _ | with_reducible assumption | with_reducible refine Below.drew ?_ | with_reducible refine below_drewN ?_ _ | with_reducible refine Below.setCell ?_ ?_ _ | with_reducible refine Below.alloc ?_ ?_ _ | omega | (simp; done) | (simp; omega)))) (Nat.le_refl _)).more hx12.size) (by omega)).mono ?_
      rintro e w13 ⟨rfl, hb13⟩
      rw [HREV.out]
      have hw13 : Below w.heap.size w w13 := stepH (by (repeat' (first | with_reducible exact Below.refl _ _ | with_reducible assumption | with_reducible refine Below.drew ?_ | with_reducible refine below_drewN ?_ _ | with_reducible refine Below.setCell ?_ ?_ _ | with_reducible refine Below.alloc ?_ ?_ _ | omega | (simp; done) | (simp; omega)))) hb13
      have hu13 : Below w8.heap.size w8 w13 := stepH (by (repeat' (first | with_reducible exact Below.refl _ _ | with_reducible assumption | with_reducible refine Below.drew ?_ | with_reducible refine below_drewN ?_ _ | with_reducible refine Below.setCell ?_ ?_ _ | with_reducible refine Below.alloc ?_ ?_ _ | omega | (simp; done) | (simp; omega)))) hb13
      have hx13 : Below w11.heap.size w11 w13 := stepH (by (repeat' (first | with_reducible exact Below.refl _ _ | with_reducible assumption | with_reducible refine Below.drew ?_ | with_reducible refine below_drewN ?_ _ | with_reducible refine Below.setCell ?_ ?_ _ | with_reducible refine Below.alloc ?_ ?_ _ | omega | (simp; done) | (simp; omega)))) hb13
      have TJ13 := keepH hb13 TJ12.out
      have cT3 := cellH TJ13
      clear hb13 cT2
      go_wp2_with fail
      refine (is6_yes mm mm.length A8 A11 c8 c11 _ rfl ((HR8.out.below (by (repeat' (first | with_reducible exact Below.refl _ _ | with_reducible assumption | with_reducible refine Below.drew ?_ | with_reducible refine below_drewN ?_ _ | with_reducible refine Below.setCell ?_ ?_ _ | with_reducible refine Below.alloc ?_ ?_ _ | omega | (simp; done) | (simp; omega)))) (Nat.le_refl _)).more hu13.size) ((HR11.out.below (by (repeat' (first | with_reducible exact Below.refl _ _ | with_reducible assumption | with_reducible refine Below.drew ?_ | with_reducible refine below_drewN ?_ _ | with_reducible refine Below.setCell ?_ ?_ _ | with_reducible refine Below.alloc ?_ ?_ _ | omega | (simp; done) | (simp; omega)))) (Nat.le_refl _)).more hx13.size) (by omega) HA8.out).mono ?_
      rintro e w14 ⟨rfl, hb14⟩
      have hw14 : Below w.heap.size w w14 := stepH (by (repeat' (first | with_reducible exact Below.refl _ _ | with_reducible assumption | with_reducible refine Below.drew ?_ | with_reducible refine below_drewN ?_ _ | with_reducible refine Below.setCell ?_ ?_ _ | with_reducible refine Below.alloc ?_ ?_ _ | omega | (simp; done) | (simp; omega)))) hb14
      have q1 : (vN o == vN o) = true := by simp
      have q2 : (vB6 o == vB6 o) = true := by cases vB6 o <;> rfl
      go_wp2_with fail
      go_ret
      exact ⟨rfl, hw14⟩

end Go.Proofs.YtjcdlhplflmneaaDoor
