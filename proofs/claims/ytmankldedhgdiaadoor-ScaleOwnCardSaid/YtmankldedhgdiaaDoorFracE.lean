/- The walks of frac: what is called by a mark; Add, Sub, Mul, Div. -/
import Derived.Test.YtmankldedhgdiaaDoorFracD
namespace Go.Proofs.YtmankldedhgdiaaDoor
open Go.RowKit

set_option maxHeartbeats 1000000 in
theorem both_add (p q : Rat) (E : Nat → Addr) (w : World) (hp : Good p) (hq : Good q) (hE : Env LF E w) :
    Calls Tryd.prog 51 #[.int .u8 43, .agg #[.int .i64 p.num, .int .i64 p.den], .agg #[.int .i64 q.num, .int .i64 q.den]] w fun e w' =>
      (∃ n d err, e = .returned (.tuple #[.agg #[.int .i64 n, .int .i64 d], err]) ∧ ResF E (goodR (p + q)) n d err) ∧ Below w.heap.size w w' := by
  have V1 := fracValid_any p.num p.den
  have V2 := fracValid_any q.num q.den
  rw [validB_good p, decide_eq_true hp] at V1
  rw [validB_good q, decide_eq_true hq] at V2
  unfold pv at V1 V2
  obtain ⟨a1, a2, a3, a4⟩ := num_le hp
  obtain ⟨b1, b2, b3, b4⟩ := num_le hq
  have HV1 := Lib.hid V1
  have HV2 := Lib.hid V2
  have HO := Lib.hid ops_told
  have HA := Lib.hid (opAdd_any p q)
  clear V1 V2
  go_enter Tryd.func51, Tryd.ntmps51
  go_wp2_with fail
  refine (HV1.out _ (by omega) (by omega) (by omega) (by omega)).mono ?_
  rintro e w1 ⟨rfl, hb1⟩
  obtain ⟨pa, paf, _⟩ := keepB hb1 (g := w.heap.size) (blk_old (blk_old (blk_new rfl)))
  obtain ⟨qa, qaf, _⟩ := keepB hb1 (g := w.heap.size + 1) (blk_old (blk_new (by simp)))
  obtain ⟨ra, raf, _⟩ := keepB hb1 (g := w.heap.size + 1 + 1) (blk_new (by simp))
  go_wp2_with fail
  refine (HV2.out _ (by omega) (by omega) (by omega) (by omega)).mono ?_
  rintro e w2 ⟨rfl, hb2⟩
  have hb12 := hb1.trans (hb2.mono hb1.size)
  obtain ⟨pb, pbf, _⟩ := keepB hb12 (g := w.heap.size) (blk_old (blk_old (blk_new rfl)))
  obtain ⟨qb, qbf, _⟩ := keepB hb12 (g := w.heap.size + 1) (blk_old (blk_new (by simp)))
  obtain ⟨rb, rbf, _⟩ := keepB hb12 (g := w.heap.size + 1 + 1) (blk_new (by simp))
  go_wp2_with fail
  refine (HO.out _).mono ?_
  rintro e w3 ⟨g, h, rfl, hb3, hch, hbh, hbg⟩
  have hb13 := hb12.trans (hb3.mono hb12.size)
  obtain ⟨pc, pcf, ps⟩ := keepB hb13 (g := w.heap.size) (blk_old (blk_old (blk_new rfl)))
  obtain ⟨qc, qcf, qs⟩ := keepB hb13 (g := w.heap.size + 1) (blk_old (blk_new (by simp)))
  obtain ⟨rc, rcf, rs⟩ := keepB hb13 (g := w.heap.size + 1 + 1) (blk_new (by simp))
  obtain ⟨gc, gcf, gs⟩ := keepB (Below.refl w3.heap.size w3) hbg
  have hb13w : Below w.heap.size w w3 := Below.trans (by (repeat' (first | with_reducible exact Below.refl _ _ | with_reducible assumption | with_reducible refine Below.drew ?_ | with_reducible refine below_drewN ?_ _ | with_reducible refine Below.setCell ?_ ?_ _ | with_reducible refine Below.alloc ?_ ?_ _ | omega | (simp; done) | (simp; omega)))) (hb13.mono (by simp <;> omega))
  have z3 := hb13w.size
  have ps1 : w.heap.size < w3.heap.size + 1 := by omega
  have ps2 : w.heap.size < w3.heap.size + 1 + 1 := by omega
  have ps3 : w.heap.size < w3.heap.size + 1 + 1 + 1 := by omega
  have qs1 : w.heap.size + 1 < w3.heap.size + 1 := by omega
  have qs2 : w.heap.size + 1 < w3.heap.size + 1 + 1 := by omega
  have qs3 : w.heap.size + 1 < w3.heap.size + 1 + 1 + 1 := by omega
  have gs1 : g < w3.heap.size + 1 := by omega
  have gs2 : g < w3.heap.size + 1 + 1 := by omega
  have gs3 : g < w3.heap.size + 1 + 1 + 1 := by omega
  clear hb1 hb2 hb3 hb12 pa paf qa qaf ra raf pb pbf qb qbf rb rbf
  go_wp2_with fail
  refine wp_loop_rounds 1 ?_
  rw [rounds_succ]
  go_wp2_with fail
  refine (HA.out E _ hp hq (hE.below (by (repeat' (first | with_reducible exact Below.refl _ _ | with_reducible assumption | with_reducible refine Below.drew ?_ | with_reducible refine below_drewN ?_ _ | with_reducible refine Below.setCell ?_ ?_ _ | with_reducible refine Below.alloc ?_ ?_ _ | omega | (simp; done) | (simp; omega)))))).mono ?_
  rintro e w4 ⟨⟨n, d, err, rfl, hr⟩, hb4⟩
  obtain ⟨k0, k1, k2⟩ := keepB hb4 (g := w.heap.size + 1 + 1) (blk_old ((hb13.block _ (by simp)).trans (blk_new (by simp))))
  have hbw : Below w.heap.size w w4 := Below.trans (by (repeat' (first | with_reducible exact Below.refl _ _ | with_reducible assumption | with_reducible refine Below.drew ?_ | with_reducible refine below_drewN ?_ _ | with_reducible refine Below.setCell ?_ ?_ _ | with_reducible refine Below.alloc ?_ ?_ _ | omega | (simp; done) | (simp; omega)))) (hb4.mono (by first | omega | (simp; done) | (simp; omega)))
  go_wp2_with fail
  refine bodyPost_ret (v := .tuple #[.agg #[.int .i64 n, .int .i64 d], err]) (by simp [results, Tryd.results51, go_sem, k0]) rfl ⟨⟨_, _, _, rfl, hr⟩, by (repeat' (first | with_reducible exact Below.refl _ _ | with_reducible assumption | with_reducible refine Below.drew ?_ | with_reducible refine below_drewN ?_ _ | with_reducible refine Below.setCell ?_ ?_ _ | with_reducible refine Below.alloc ?_ ?_ _ | omega | (simp; done) | (simp; omega)))⟩

set_option maxHeartbeats 1000000 in
theorem both_sub (p q : Rat) (E : Nat → Addr) (w : World) (hp : Good p) (hq : Good q) (hE : Env LF E w) :
    Calls Tryd.prog 51 #[.int .u8 45, .agg #[.int .i64 p.num, .int .i64 p.den], .agg #[.int .i64 q.num, .int .i64 q.den]] w fun e w' =>
      (∃ n d err, e = .returned (.tuple #[.agg #[.int .i64 n, .int .i64 d], err]) ∧ ResF E (goodR (p - q)) n d err) ∧ Below w.heap.size w w' := by
  have V1 := fracValid_any p.num p.den
  have V2 := fracValid_any q.num q.den
  rw [validB_good p, decide_eq_true hp] at V1
  rw [validB_good q, decide_eq_true hq] at V2
  unfold pv at V1 V2
  obtain ⟨a1, a2, a3, a4⟩ := num_le hp
  obtain ⟨b1, b2, b3, b4⟩ := num_le hq
  have HV1 := Lib.hid V1
  have HV2 := Lib.hid V2
  have HO := Lib.hid ops_told
  have HA := Lib.hid (opSub_any p q)
  clear V1 V2
  go_enter Tryd.func51, Tryd.ntmps51
  go_wp2_with fail
  refine (HV1.out _ (by omega) (by omega) (by omega) (by omega)).mono ?_
  rintro e w1 ⟨rfl, hb1⟩
  obtain ⟨pa, paf, _⟩ := keepB hb1 (g := w.heap.size) (blk_old (blk_old (blk_new rfl)))
  obtain ⟨qa, qaf, _⟩ := keepB hb1 (g := w.heap.size + 1) (blk_old (blk_new (by simp)))
  obtain ⟨ra, raf, _⟩ := keepB hb1 (g := w.heap.size + 1 + 1) (blk_new (by simp))
  go_wp2_with fail
  refine (HV2.out _ (by omega) (by omega) (by omega) (by omega)).mono ?_
  rintro e w2 ⟨rfl, hb2⟩
  have hb12 := hb1.trans (hb2.mono hb1.size)
  obtain ⟨pb, pbf, _⟩ := keepB hb12 (g := w.heap.size) (blk_old (blk_old (blk_new rfl)))
  obtain ⟨qb, qbf, _⟩ := keepB hb12 (g := w.heap.size + 1) (blk_old (blk_new (by simp)))
  obtain ⟨rb, rbf, _⟩ := keepB hb12 (g := w.heap.size + 1 + 1) (blk_new (by simp))
  go_wp2_with fail
  refine (HO.out _).mono ?_
  rintro e w3 ⟨g, h, rfl, hb3, hch, hbh, hbg⟩
  have hb13 := hb12.trans (hb3.mono hb12.size)
  obtain ⟨pc, pcf, ps⟩ := keepB hb13 (g := w.heap.size) (blk_old (blk_old (blk_new rfl)))
  obtain ⟨qc, qcf, qs⟩ := keepB hb13 (g := w.heap.size + 1) (blk_old (blk_new (by simp)))
  obtain ⟨rc, rcf, rs⟩ := keepB hb13 (g := w.heap.size + 1 + 1) (blk_new (by simp))
  obtain ⟨gc, gcf, gs⟩ := keepB (Below.refl w3.heap.size w3) hbg
  have hb13w : Below w.heap.size w w3 := Below.trans (by (repeat' (first | with_reducible exact Below.refl _ _ | with_reducible assumption | with_reducible refine Below.drew ?_ | with_reducible refine below_drewN ?_ _ | with_reducible refine Below.setCell ?_ ?_ _ | with_reducible refine Below.alloc ?_ ?_ _ | omega | (simp; done) | (simp; omega)))) (hb13.mono (by simp <;> omega))
  have z3 := hb13w.size
  have ps1 : w.heap.size < w3.heap.size + 1 := by omega
  have ps2 : w.heap.size < w3.heap.size + 1 + 1 := by omega
  have ps3 : w.heap.size < w3.heap.size + 1 + 1 + 1 := by omega
  have qs1 : w.heap.size + 1 < w3.heap.size + 1 := by omega
  have qs2 : w.heap.size + 1 < w3.heap.size + 1 + 1 := by omega
  have qs3 : w.heap.size + 1 < w3.heap.size + 1 + 1 + 1 := by omega
  have gs1 : g < w3.heap.size + 1 := by omega
  have gs2 : g < w3.heap.size + 1 + 1 := by omega
  have gs3 : g < w3.heap.size + 1 + 1 + 1 := by omega
  clear hb1 hb2 hb3 hb12 pa paf qa qaf ra raf pb pbf qb qbf rb rbf
  go_wp2_with fail
  refine wp_loop_rounds 2 ?_
  rw [rounds_succ]
  go_wp2_with fail
  rw [rounds_succ]
  go_wp2_with fail
  refine (HA.out _ E _ hp hq (by (repeat (first | (simp; done) | assumption | refine cell_set ?_ (by first | omega | (simp; done) | (simp; omega)) | refine cell_alloc ?_ | refine cell_drew ?_ | refine cell_drewN ?_))) (hE.below (by (repeat' (first | with_reducible exact Below.refl _ _ | with_reducible assumption | with_reducible refine Below.drew ?_ | with_reducible refine below_drewN ?_ _ | with_reducible refine Below.setCell ?_ ?_ _ | with_reducible refine Below.alloc ?_ ?_ _ | omega | (simp; done) | (simp; omega)))))).mono ?_
  rintro e w4 ⟨⟨n, d, err, rfl, hr⟩, hb4⟩
  obtain ⟨k0, k1, k2⟩ := keepB hb4 (g := w.heap.size + 1 + 1) (blk_old (blk_old ((hb13.block _ (by simp)).trans (blk_new (by simp)))))
  have hbw : Below w.heap.size w w4 := Below.trans (by (repeat' (first | with_reducible exact Below.refl _ _ | with_reducible assumption | with_reducible refine Below.drew ?_ | with_reducible refine below_drewN ?_ _ | with_reducible refine Below.setCell ?_ ?_ _ | with_reducible refine Below.alloc ?_ ?_ _ | omega | (simp; done) | (simp; omega)))) (hb4.mono (by first | omega | (simp; done) | (simp; omega)))
  go_wp2_with fail
  refine bodyPost_ret (v := .tuple #[.agg #[.int .i64 n, .int .i64 d], err]) (by simp [results, Tryd.results51, go_sem, k0]) rfl ⟨⟨_, _, _, rfl, hr⟩, by (repeat' (first | with_reducible exact Below.refl _ _ | with_reducible assumption | with_reducible refine Below.drew ?_ | with_reducible refine below_drewN ?_ _ | with_reducible refine Below.setCell ?_ ?_ _ | with_reducible refine Below.alloc ?_ ?_ _ | omega | (simp; done) | (simp; omega)))⟩

set_option maxHeartbeats 1000000 in
theorem both_mul (p q : Rat) (E : Nat → Addr) (w : World) (hp : Good p) (hq : Good q) (hE : Env LF E w) :
    Calls Tryd.prog 51 #[.int .u8 42, .agg #[.int .i64 p.num, .int .i64 p.den], .agg #[.int .i64 q.num, .int .i64 q.den]] w fun e w' =>
      (∃ n d err, e = .returned (.tuple #[.agg #[.int .i64 n, .int .i64 d], err]) ∧ ResF E (goodR (p * q)) n d err) ∧ Below w.heap.size w w' := by
  have V1 := fracValid_any p.num p.den
  have V2 := fracValid_any q.num q.den
  rw [validB_good p, decide_eq_true hp] at V1
  rw [validB_good q, decide_eq_true hq] at V2
  unfold pv at V1 V2
  obtain ⟨a1, a2, a3, a4⟩ := num_le hp
  obtain ⟨b1, b2, b3, b4⟩ := num_le hq
  have HV1 := Lib.hid V1
  have HV2 := Lib.hid V2
  have HO := Lib.hid ops_told
  have HA := Lib.hid (opMul_any p q)
  clear V1 V2
  go_enter Tryd.func51, Tryd.ntmps51
  go_wp2_with fail
  refine (HV1.out _ (by omega) (by omega) (by omega) (by omega)).mono ?_
  rintro e w1 ⟨rfl, hb1⟩
  obtain ⟨pa, paf, _⟩ := keepB hb1 (g := w.heap.size) (blk_old (blk_old (blk_new rfl)))
  obtain ⟨qa, qaf, _⟩ := keepB hb1 (g := w.heap.size + 1) (blk_old (blk_new (by simp)))
  obtain ⟨ra, raf, _⟩ := keepB hb1 (g := w.heap.size + 1 + 1) (blk_new (by simp))
  go_wp2_with fail
  refine (HV2.out _ (by omega) (by omega) (by omega) (by omega)).mono ?_
  rintro e w2 ⟨rfl, hb2⟩
  have hb12 := hb1.trans (hb2.mono hb1.size)
  obtain ⟨pb, pbf, _⟩ := keepB hb12 (g := w.heap.size) (blk_old (blk_old (blk_new rfl)))
  obtain ⟨qb, qbf, _⟩ := keepB hb12 (g := w.heap.size + 1) (blk_old (blk_new (by simp)))
  obtain ⟨rb, rbf, _⟩ := keepB hb12 (g := w.heap.size + 1 + 1) (blk_new (by simp))
  go_wp2_with fail
  refine (HO.out _).mono ?_
  rintro e w3 ⟨g, h, rfl, hb3, hch, hbh, hbg⟩
  have hb13 := hb12.trans (hb3.mono hb12.size)
  obtain ⟨pc, pcf, ps⟩ := keepB hb13 (g := w.heap.size) (blk_old (blk_old (blk_new rfl)))
  obtain ⟨qc, qcf, qs⟩ := keepB hb13 (g := w.heap.size + 1) (blk_old (blk_new (by simp)))
  obtain ⟨rc, rcf, rs⟩ := keepB hb13 (g := w.heap.size + 1 + 1) (blk_new (by simp))
  obtain ⟨gc, gcf, gs⟩ := keepB (Below.refl w3.heap.size w3) hbg
  have hb13w : Below w.heap.size w w3 := Below.trans (by (repeat' (first | with_reducible exact Below.refl _ _ | with_reducible assumption | with_reducible refine Below.drew ?_ | with_reducible refine below_drewN ?_ _ | with_reducible refine Below.setCell ?_ ?_ _ | with_reducible refine Below.alloc ?_ ?_ _ | omega | (simp; done) | (simp; omega)))) (hb13.mono (by simp <;> omega))
  have z3 := hb13w.size
  have ps1 : w.heap.size < w3.heap.size + 1 := by omega
  have ps2 : w.heap.size < w3.heap.size + 1 + 1 := by omega
  have ps3 : w.heap.size < w3.heap.size + 1 + 1 + 1 := by omega
  have qs1 : w.heap.size + 1 < w3.heap.size + 1 := by omega
  have qs2 : w.heap.size + 1 < w3.heap.size + 1 + 1 := by omega
  have qs3 : w.heap.size + 1 < w3.heap.size + 1 + 1 + 1 := by omega
  have gs1 : g < w3.heap.size + 1 := by omega
  have gs2 : g < w3.heap.size + 1 + 1 := by omega
  have gs3 : g < w3.heap.size + 1 + 1 + 1 := by omega
  clear hb1 hb2 hb3 hb12 pa paf qa qaf ra raf pb pbf qb qbf rb rbf
  go_wp2_with fail
  refine wp_loop_rounds 3 ?_
  rw [rounds_succ]
  go_wp2_with fail
  rw [rounds_succ]
  go_wp2_with fail
  rw [rounds_succ]
  go_wp2_with fail
  refine (HA.out E _ hp hq (hE.below (by (repeat' (first | with_reducible exact Below.refl _ _ | with_reducible assumption | with_reducible refine Below.drew ?_ | with_reducible refine below_drewN ?_ _ | with_reducible refine Below.setCell ?_ ?_ _ | with_reducible refine Below.alloc ?_ ?_ _ | omega | (simp; done) | (simp; omega)))))).mono ?_
  rintro e w4 ⟨⟨n, d, err, rfl, hr⟩, hb4⟩
  obtain ⟨k0, k1, k2⟩ := keepB hb4 (g := w.heap.size + 1 + 1) (blk_old (blk_old (blk_old ((hb13.block _ (by simp)).trans (blk_new (by simp))))))
  have hbw : Below w.heap.size w w4 := Below.trans (by (repeat' (first | with_reducible exact Below.refl _ _ | with_reducible assumption | with_reducible refine Below.drew ?_ | with_reducible refine below_drewN ?_ _ | with_reducible refine Below.setCell ?_ ?_ _ | with_reducible refine Below.alloc ?_ ?_ _ | omega | (simp; done) | (simp; omega)))) (hb4.mono (by first | omega | (simp; done) | (simp; omega)))
  go_wp2_with fail
  refine bodyPost_ret (v := .tuple #[.agg #[.int .i64 n, .int .i64 d], err]) (by simp [results, Tryd.results51, go_sem, k0]) rfl ⟨⟨_, _, _, rfl, hr⟩, by (repeat' (first | with_reducible exact Below.refl _ _ | with_reducible assumption | with_reducible refine Below.drew ?_ | with_reducible refine below_drewN ?_ _ | with_reducible refine Below.setCell ?_ ?_ _ | with_reducible refine Below.alloc ?_ ?_ _ | omega | (simp; done) | (simp; omega)))⟩

set_option maxHeartbeats 1000000 in
theorem both_div (p q : Rat) (E : Nat → Addr) (w : World) (hp : Good p) (hq : Good q) (hE : Env LF E w) :
    Calls Tryd.prog 51 #[.int .u8 47, .agg #[.int .i64 p.num, .int .i64 p.den], .agg #[.int .i64 q.num, .int .i64 q.den]] w fun e w' =>
      (∃ n d err, e = .returned (.tuple #[.agg #[.int .i64 n, .int .i64 d], err]) ∧ ResF E (divR p q) n d err) ∧ Below w.heap.size w w' := by
  have V1 := fracValid_any p.num p.den
  have V2 := fracValid_any q.num q.den
  rw [validB_good p, decide_eq_true hp] at V1
  rw [validB_good q, decide_eq_true hq] at V2
  unfold pv at V1 V2
  obtain ⟨a1, a2, a3, a4⟩ := num_le hp
  obtain ⟨b1, b2, b3, b4⟩ := num_le hq
  have HV1 := Lib.hid V1
  have HV2 := Lib.hid V2
  have HO := Lib.hid ops_told
  have HA := Lib.hid (opDiv_any p q)
  clear V1 V2
  go_enter Tryd.func51, Tryd.ntmps51
  go_wp2_with fail
  refine (HV1.out _ (by omega) (by omega) (by omega) (by omega)).mono ?_
  rintro e w1 ⟨rfl, hb1⟩
  obtain ⟨pa, paf, _⟩ := keepB hb1 (g := w.heap.size) (blk_old (blk_old (blk_new rfl)))
  obtain ⟨qa, qaf, _⟩ := keepB hb1 (g := w.heap.size + 1) (blk_old (blk_new (by simp)))
  obtain ⟨ra, raf, _⟩ := keepB hb1 (g := w.heap.size + 1 + 1) (blk_new (by simp))
  go_wp2_with fail
  refine (HV2.out _ (by omega) (by omega) (by omega) (by omega)).mono ?_
  rintro e w2 ⟨rfl, hb2⟩
  have hb12 := hb1.trans (hb2.mono hb1.size)
  obtain ⟨pb, pbf, _⟩ := keepB hb12 (g := w.heap.size) (blk_old (blk_old (blk_new rfl)))
  obtain ⟨qb, qbf, _⟩ := keepB hb12 (g := w.heap.size + 1) (blk_old (blk_new (by simp)))
  obtain ⟨rb, rbf, _⟩ := keepB hb12 (g := w.heap.size + 1 + 1) (blk_new (by simp))
  go_wp2_with fail
  refine (HO.out _).mono ?_
  rintro e w3 ⟨g, h, rfl, hb3, hch, hbh, hbg⟩
  have hb13 := hb12.trans (hb3.mono hb12.size)
  obtain ⟨pc, pcf, ps⟩ := keepB hb13 (g := w.heap.size) (blk_old (blk_old (blk_new rfl)))
  obtain ⟨qc, qcf, qs⟩ := keepB hb13 (g := w.heap.size + 1) (blk_old (blk_new (by simp)))
  obtain ⟨rc, rcf, rs⟩ := keepB hb13 (g := w.heap.size + 1 + 1) (blk_new (by simp))
  obtain ⟨gc, gcf, gs⟩ := keepB (Below.refl w3.heap.size w3) hbg
  have hb13w : Below w.heap.size w w3 := Below.trans (by (repeat' (first | with_reducible exact Below.refl _ _ | with_reducible assumption | with_reducible refine Below.drew ?_ | with_reducible refine below_drewN ?_ _ | with_reducible refine Below.setCell ?_ ?_ _ | with_reducible refine Below.alloc ?_ ?_ _ | omega | (simp; done) | (simp; omega)))) (hb13.mono (by simp <;> omega))
  have z3 := hb13w.size
  have ps1 : w.heap.size < w3.heap.size + 1 := by omega
  have ps2 : w.heap.size < w3.heap.size + 1 + 1 := by omega
  have ps3 : w.heap.size < w3.heap.size + 1 + 1 + 1 := by omega
  have qs1 : w.heap.size + 1 < w3.heap.size + 1 := by omega
  have qs2 : w.heap.size + 1 < w3.heap.size + 1 + 1 := by omega
  have qs3 : w.heap.size + 1 < w3.heap.size + 1 + 1 + 1 := by omega
  have gs1 : g < w3.heap.size + 1 := by omega
  have gs2 : g < w3.heap.size + 1 + 1 := by omega
  have gs3 : g < w3.heap.size + 1 + 1 + 1 := by omega
  clear hb1 hb2 hb3 hb12 pa paf qa qaf ra raf pb pbf qb qbf rb rbf
  go_wp2_with fail
  refine wp_loop_rounds 4 ?_
  rw [rounds_succ]
  go_wp2_with fail
  rw [rounds_succ]
  go_wp2_with fail
  rw [rounds_succ]
  go_wp2_with fail
  rw [rounds_succ]
  go_wp2_with fail
  refine (HA.out E _ hp hq (hE.below (by (repeat' (first | with_reducible exact Below.refl _ _ | with_reducible assumption | with_reducible refine Below.drew ?_ | with_reducible refine below_drewN ?_ _ | with_reducible refine Below.setCell ?_ ?_ _ | with_reducible refine Below.alloc ?_ ?_ _ | omega | (simp; done) | (simp; omega)))))).mono ?_
  rintro e w4 ⟨⟨n, d, err, rfl, hr⟩, hb4⟩
  obtain ⟨k0, k1, k2⟩ := keepB hb4 (g := w.heap.size + 1 + 1) (blk_old (blk_old (blk_old (blk_old ((hb13.block _ (by simp)).trans (blk_new (by simp)))))))
  have hbw : Below w.heap.size w w4 := Below.trans (by (repeat' (first | with_reducible exact Below.refl _ _ | with_reducible assumption | with_reducible refine Below.drew ?_ | with_reducible refine below_drewN ?_ _ | with_reducible refine Below.setCell ?_ ?_ _ | with_reducible refine Below.alloc ?_ ?_ _ | omega | (simp; done) | (simp; omega)))) (hb4.mono (by first | omega | (simp; done) | (simp; omega)))
  go_wp2_with fail
  refine bodyPost_ret (v := .tuple #[.agg #[.int .i64 n, .int .i64 d], err]) (by simp [results, Tryd.results51, go_sem, k0]) rfl ⟨⟨_, _, _, rfl, hr⟩, by (repeat' (first | with_reducible exact Below.refl _ _ | with_reducible assumption | with_reducible refine Below.drew ?_ | with_reducible refine below_drewN ?_ _ | with_reducible refine Below.setCell ?_ ?_ _ | with_reducible refine Below.alloc ?_ ?_ _ | omega | (simp; done) | (simp; omega)))⟩

end Go.Proofs.YtmankldedhgdiaaDoor
