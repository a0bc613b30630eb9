/- The walks of frac: the table of the operations, and what is called by a mark. -/
import Derived.Test.YtmankldedhgdiaaDoorFracC
import Derived.Laws.EntriesVeiled
namespace Go.Proofs.YtmankldedhgdiaaDoor
open Go.RowKit

theorem ops_any (w : World) : Calls Tryd.prog 65 #[] w fun e w' => e = .returned (.slice (some ⟨w.heap.size + 1, 0, none⟩) 4 4) ∧ w' = (w.alloc (.cells #[.func (.func 81) #[] #[]] 58)).alloc
      (.cells #[.int .u8 43, .func (.func 81) #[] #[], .int .u8 45, .func (.func 83) #[] #[.pointer (some ⟨w.heap.size, 0, none⟩)], .int .u8 42, .func (.func 85) #[] #[], .int .u8 47, .func (.func 88) #[] #[]] 89) := by
  go_enter Tryd.func65, Tryd.ntmps65
  go_wp2_with fail
  go_ret
  exact ⟨rfl, rfl⟩

/-- the table, said of a world that is a letter -/
theorem ops_told (w : World) : Calls Tryd.prog 65 #[] w fun e w' => ∃ g h : Nat, e = .returned (.slice (some ⟨g, 0, none⟩) 4 4) ∧ Below w.heap.size w w' ∧ w'.cell? ⟨h, 0, none⟩ = some (.func (.func 81) #[] #[]) ∧ w'.heap[h]? = some (.cells #[.func (.func 81) #[] #[]] 58 (0, 0)) ∧ w'.heap[g]? = some (.cells #[.int .u8 43, .func (.func 81) #[] #[], .int .u8 45, .func (.func 83) #[] #[.pointer (some ⟨h, 0, none⟩)], .int .u8 42, .func (.func 85) #[] #[], .int .u8 47, .func (.func 88) #[] #[]] 89 (0, 0)) := by
  refine (ops_any w).mono ?_
  rintro e w' ⟨rfl, rfl⟩
  exact ⟨w.heap.size + 1, w.heap.size, rfl, by (repeat' (first | with_reducible exact Below.refl _ _ | with_reducible assumption | with_reducible refine Below.drew ?_ | with_reducible refine below_drewN ?_ _ | with_reducible refine Below.setCell ?_ ?_ _ | with_reducible refine Below.alloc ?_ ?_ _ | omega | (simp; done) | (simp; omega))), (by (repeat (first | (simp; done) | assumption | refine cell_set ?_ (by first | omega | (simp; done) | (simp; omega)) | refine cell_alloc ?_ | refine cell_drew ?_ | refine cell_drewN ?_))), blk_old (blk_new rfl), blk_new (by simp)⟩

theorem neg_good (n d : Int) (w : World) (h1 : -9223372036854775807 ≤ n) (h2 : n ≤ 9223372036854775807) :
    Calls Tryd.prog 84 #[.agg #[.int .i64 n, .int .i64 d]] w fun e w' => e = .returned (.agg #[.int .i64 (-n), .int .i64 d]) ∧ Below w.heap.size w w' := by
  go_enter Tryd.func84, Tryd.ntmps84
  go_wp2
  refine bodyPost_ret (v := .agg #[.int .i64 (-n), .int .i64 d]) (by simp [results, Tryd.results84, go_sem]) rfl ⟨rfl, by (repeat' (first | with_reducible exact Below.refl _ _ | with_reducible assumption | with_reducible refine Below.drew ?_ | with_reducible refine below_drewN ?_ _ | with_reducible refine Below.setCell ?_ ?_ _ | with_reducible refine Below.alloc ?_ ?_ _ | omega | (simp; done) | (simp; omega)))⟩

set_option maxHeartbeats 1000000 in
theorem opSub_any (p q : Rat) (a : Addr) (E : Nat → Addr) (w : World) (hp : Good p) (hq : Good q) (ha : w.cell? a = some (.func (.func 81) #[] #[])) (hE : Env LF E w) :
    Calls Tryd.prog 83 #[.agg #[.int .i64 p.num, .int .i64 p.den], .agg #[.int .i64 q.num, .int .i64 q.den], .pointer (some a)] w fun e w' =>
      (∃ n d err, e = .returned (.tuple #[.agg #[.int .i64 n, .int .i64 d], err]) ∧ ResF E (goodR (p - q)) n d err) ∧ Below w.heap.size w w' := by
  obtain ⟨b1, b2, b3, b4⟩ := num_le hq
  have HA := Lib.hid (opAdd_any p (-q))
  simp only [Rat.neg_num, Rat.neg_den, ← Rat.sub_eq_add_neg] at HA
  have hq' : Hid (Good (-q)) := by show Good (-q); unfold Good; rw [Rat.neg_num, Rat.neg_den]; omega
  have hal := cell_lt ha
  go_enter Tryd.func83, Tryd.ntmps83
  go_wp2_with fail
  go_region_held3 (fun w' => w'.cell? a = some (.func (.func 81) #[] #[]) ∧ w'.cell? ⟨w.heap.size, 0, none⟩ = some (.int .i64 p.num) ∧ w'.cell? ⟨w.heap.size, 1, none⟩ = some (.int .i64 p.den) ∧ w'.cell? ⟨w.heap.size + 1, 0, none⟩ = some (.int .i64 q.num) ∧ w'.cell? ⟨w.heap.size + 1, 1, none⟩ = some (.int .i64 q.den)) (first | exact ⟨d4, d0, d1, d2, d3⟩ | exact ⟨c4, c0, c1, c2, c3⟩ | (refine ⟨?_, ?_, ?_, ?_, ?_⟩ <;> exact (by (repeat (first | (simp; done) | assumption | refine cell_set ?_ (by first | omega | (simp; done) | (simp; omega)) | refine cell_alloc ?_ | refine cell_drew ?_ | refine cell_drewN ?_)))) | go_keep)
      (first | (go_at_call 84; refine (neg_good _ _ _ (by omega) (by omega)).mono ?_; rintro e w1 ⟨rfl, hb1⟩; have c0 : w1.cell? ⟨w.heap.size, 0, none⟩ = some (.int .i64 p.num) := cellOf hb1 (by (repeat (first | (simp; done) | assumption | refine cell_set ?_ (by first | omega | (simp; done) | (simp; omega)) | refine cell_alloc ?_ | refine cell_drew ?_ | refine cell_drewN ?_))); have c1 : w1.cell? ⟨w.heap.size, 1, none⟩ = some (.int .i64 p.den) := cellOf hb1 (by (repeat (first | (simp; done) | assumption | refine cell_set ?_ (by first | omega | (simp; done) | (simp; omega)) | refine cell_alloc ?_ | refine cell_drew ?_ | refine cell_drewN ?_))); have c2 : w1.cell? ⟨w.heap.size + 1, 0, none⟩ = some (.int .i64 q.num) := cellOf hb1 (by (repeat (first | (simp; done) | assumption | refine cell_set ?_ (by first | omega | (simp; done) | (simp; omega)) | refine cell_alloc ?_ | refine cell_drew ?_ | refine cell_drewN ?_))); have c3 : w1.cell? ⟨w.heap.size + 1, 1, none⟩ = some (.int .i64 q.den) := cellOf hb1 (by (repeat (first | (simp; done) | assumption | refine cell_set ?_ (by first | omega | (simp; done) | (simp; omega)) | refine cell_alloc ?_ | refine cell_drew ?_ | refine cell_drewN ?_))); have c4 : w1.cell? a = some (.func (.func 81) #[] #[]) := cellOf hb1 (by (repeat (first | (simp; done) | assumption | refine cell_set ?_ (by first | omega | (simp; done) | (simp; omega)) | refine cell_alloc ?_ | refine cell_drew ?_ | refine cell_drewN ?_))); have hbw1 : Below w.heap.size w w1 := Below.trans (by (repeat' (first | with_reducible exact Below.refl _ _ | with_reducible assumption | with_reducible refine Below.drew ?_ | with_reducible refine below_drewN ?_ _ | with_reducible refine Below.setCell ?_ ?_ _ | with_reducible refine Below.alloc ?_ ?_ _ | omega | (simp; done) | (simp; omega)))) (hb1.mono (by simp <;> omega))) | (go_at_call 81; refine (HA.out E _ hp hq'.out (hE.below (by (repeat' (first | with_reducible exact Below.refl _ _ | with_reducible assumption | with_reducible refine Below.drew ?_ | with_reducible refine below_drewN ?_ _ | with_reducible refine Below.setCell ?_ ?_ _ | with_reducible refine Below.alloc ?_ ?_ _ | omega | (simp; done) | (simp; omega)))))).mono ?_; rintro e w2 ⟨⟨n, d, err, rfl, hr⟩, hb2⟩; have hbw2 : Below w.heap.size w w2 := hbw1.trans (hb2.mono hbw1.size); obtain ⟨k0, k1, k2⟩ := keepB (hb1.trans (hb2.mono hb1.size)) (g := w.heap.size + 1 + 1) (blk_new (by simp)); have d0 : w2.cell? ⟨w.heap.size, 0, none⟩ = some (.int .i64 p.num) := cellOf hb2 c0; have d1 : w2.cell? ⟨w.heap.size, 1, none⟩ = some (.int .i64 p.den) := cellOf hb2 c1; have d2 : w2.cell? ⟨w.heap.size + 1, 0, none⟩ = some (.int .i64 q.num) := cellOf hb2 c2; have d3 : w2.cell? ⟨w.heap.size + 1, 1, none⟩ = some (.int .i64 q.den) := cellOf hb2 c3; have d4 : w2.cell? a = some (.func (.func 81) #[] #[]) := cellOf hb2 c4))
  go_wp2_with fail
  refine bodyPost_ret (v := .tuple #[.agg #[.int .i64 n, .int .i64 d], err]) (by simp [results, Tryd.results83, go_sem, k0]) rfl ⟨⟨_, _, _, rfl, hr⟩, by (repeat' (first | with_reducible exact Below.refl _ _ | with_reducible assumption | with_reducible refine Below.drew ?_ | with_reducible refine below_drewN ?_ _ | with_reducible refine Below.setCell ?_ ?_ _ | with_reducible refine Below.alloc ?_ ?_ _ | omega | (simp; done) | (simp; omega)))⟩

/-- which of the four a mark is -/
def opR (mark : Int) (p q : Rat) : Except Nat Rat :=
  if mark = 43 then goodR (p + q) else if mark = 45 then goodR (p - q) else if mark = 42 then goodR (p * q) else divR p q

set_option maxHeartbeats 1000000 in
theorem both_bad (mark n1 d1 n2 d2 : Int) (E : Nat → Addr) (w : World) (hv : (validB n1 d1 && validB n2 d2) = false)
    (b1 : -9223372036854775808 ≤ n1) (b2 : n1 ≤ 9223372036854775807) (b3 : -9223372036854775808 ≤ d1) (b4 : d1 ≤ 9223372036854775807)
    (b5 : -9223372036854775808 ≤ n2) (b6 : n2 ≤ 9223372036854775807) (b7 : -9223372036854775808 ≤ d2) (b8 : d2 ≤ 9223372036854775807) (hE : Env LF E w) :
    Calls Tryd.prog 51 #[.int .u8 mark, .agg #[.int .i64 n1, .int .i64 d1], .agg #[.int .i64 n2, .int .i64 d2]] w fun e w' =>
      (∃ n d err, e = .returned (.tuple #[.agg #[.int .i64 n, .int .i64 d], err]) ∧ ResF E (.error 3) n d err) ∧ Below w.heap.size w w' := by
  have V1 := fracValid_any n1 d1
  have V2 := fracValid_any n2 d2
  unfold pv at V1 V2
  obtain ⟨hc, hlt, _⟩ := hE.sent 3 (by decide)
  have hne : w.heap.size ≠ 3 := by omega
  have hne1 : 3 < w.heap.size + 1 ∧ 3 < w.heap.size + 1 + 1 ∧ 3 < w.heap.size + 1 + 1 + 1 ∧ 3 < w.heap.size + 1 + 1 + 1 + 1 := by omega
  by_cases h1 : validB n1 d1 = true
  · have h2 : validB n2 d2 = false := by simpa [h1] using hv
    rw [h1] at V1
    rw [h2] at V2
    clear h1 h2 hv
    have HV1 := Lib.hid V1
    have HV2 := Lib.hid V2
    clear V1 V2
    go_enter Tryd.func51, Tryd.ntmps51
    go_wp2_with fail
    refine (HV1.out _ (by omega) (by omega) (by omega) (by omega)).mono ?_
    rintro e w1 ⟨rfl, hb1⟩
    obtain ⟨pa, paf, _⟩ := keepB hb1 (g := w.heap.size) (blk_old (blk_old (blk_new rfl)))
    obtain ⟨qa, qaf, _⟩ := keepB hb1 (g := w.heap.size + 1) (blk_old (blk_new (by simp)))
    obtain ⟨ra, raf, _⟩ := keepB hb1 (g := w.heap.size + 1 + 1) (blk_new (by simp))
    go_wp2_with fail
    refine (HV2.out _ (by omega) (by omega) (by omega) (by omega)).mono ?_
    rintro e w2 ⟨rfl, hb2⟩
    have hb12 := hb1.trans (hb2.mono hb1.size)
    obtain ⟨rb, rbf, _⟩ := keepB hb12 (g := w.heap.size + 1 + 1) (blk_new (by simp))
    have hbw : Below w.heap.size w w2 := Below.trans (by (repeat' (first | with_reducible exact Below.refl _ _ | with_reducible assumption | with_reducible refine Below.drew ?_ | with_reducible refine below_drewN ?_ _ | with_reducible refine Below.setCell ?_ ?_ _ | with_reducible refine Below.alloc ?_ ?_ _ | omega | (simp; done) | (simp; omega)))) (hb12.mono (by simp <;> omega))
    have hc' := (hE.below hbw).cell 3 (by decide)
    go_wp2_with fail
    go_region
    go_wp2_with fail
    refine bodyPost_ret (v := .tuple #[.agg #[.int .i64 0, .int .i64 0], (.iface 122 (.pointer (some (E 3))))]) (by simp [results, Tryd.results51, go_sem, rb]) rfl ⟨⟨_, _, _, rfl, rfl, rfl, rfl⟩, by (repeat' (first | with_reducible exact Below.refl _ _ | with_reducible assumption | with_reducible refine Below.drew ?_ | with_reducible refine below_drewN ?_ _ | with_reducible refine Below.setCell ?_ ?_ _ | with_reducible refine Below.alloc ?_ ?_ _ | omega | (simp; done) | (simp; omega)))⟩
  · have h1' : validB n1 d1 = false := by simpa using h1
    rw [h1'] at V1
    clear h1 h1' hv V2
    have HV1 := Lib.hid V1
    clear V1
    go_enter Tryd.func51, Tryd.ntmps51
    go_wp2_with fail
    refine (HV1.out _ (by omega) (by omega) (by omega) (by omega)).mono ?_
    rintro e w1 ⟨rfl, hb1⟩
    obtain ⟨ra, raf, _⟩ := keepB hb1 (g := w.heap.size + 1 + 1) (blk_new (by simp))
    have hbw : Below w.heap.size w w1 := Below.trans (by (repeat' (first | with_reducible exact Below.refl _ _ | with_reducible assumption | with_reducible refine Below.drew ?_ | with_reducible refine below_drewN ?_ _ | with_reducible refine Below.setCell ?_ ?_ _ | with_reducible refine Below.alloc ?_ ?_ _ | omega | (simp; done) | (simp; omega)))) (hb1.mono (by simp <;> omega))
    have hc' := (hE.below hbw).cell 3 (by decide)
    go_wp2_with fail
    go_region
    go_wp2_with fail
    refine bodyPost_ret (v := .tuple #[.agg #[.int .i64 0, .int .i64 0], (.iface 122 (.pointer (some (E 3))))]) (by simp [results, Tryd.results51, go_sem, ra]) rfl ⟨⟨_, _, _, rfl, rfl, rfl, rfl⟩, by (repeat' (first | with_reducible exact Below.refl _ _ | with_reducible assumption | with_reducible refine Below.drew ?_ | with_reducible refine below_drewN ?_ _ | with_reducible refine Below.setCell ?_ ?_ _ | with_reducible refine Below.alloc ?_ ?_ _ | omega | (simp; done) | (simp; omega)))⟩

end Go.Proofs.YtmankldedhgdiaaDoor
