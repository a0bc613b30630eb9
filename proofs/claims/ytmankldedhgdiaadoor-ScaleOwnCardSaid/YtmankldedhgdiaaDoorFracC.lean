/- The walks of frac: the four operations. -/
import Derived.Test.YtmankldedhgdiaaDoorFracB
import Derived.StillTailTactics
namespace Go.Proofs.YtmankldedhgdiaaDoor
open Go.RowKit

theorem num_le {q : Rat} (h : Good q) : -1000000000000 ≤ q.num ∧ q.num ≤ 1000000000000 ∧ 1 ≤ (q.den : Int) ∧ (q.den : Int) ≤ 1000000 := by
  obtain ⟨a, b, c⟩ := h
  have := q.den_pos
  exact ⟨a, b, by omega, by omega⟩

theorem prod_le {n d : Int} (h1 : -1000000000000 ≤ n) (h2 : n ≤ 1000000000000) (h3 : 1 ≤ d) (h4 : d ≤ 1000000) : -1000000000000000000 ≤ n * d ∧ n * d ≤ 1000000000000000000 := by
  constructor
  · have : -1000000000000 * d ≤ n * d := Int.mul_le_mul_of_nonneg_right h1 (by omega)
    omega
  · have : n * d ≤ 1000000000000 * d := Int.mul_le_mul_of_nonneg_right h2 (by omega)
    omega

theorem add_divInt (p q : Rat) : makeR (p.num * q.den + q.num * p.den) (p.den * q.den) = goodR (p + q) := by
  have h1 := p.den_pos
  have h2 := q.den_pos
  have h3 : (p.den : Int) * q.den ≠ 0 := Int.mul_ne_zero (by omega) (by omega)
  unfold makeR
  rw [if_neg h3, Rat.add_def']
  have : ((p.den * q.den : Nat) : Int) = (p.den : Int) * q.den := by push_cast; rfl
  rw [← Rat.divInt_ofNat, this]

set_option maxHeartbeats 1000000 in
theorem opAdd_any (p q : Rat) (E : Nat → Addr) (w : World) (hp : Good p) (hq : Good q) (hE : Env LF E w) :
    Calls Tryd.prog 81 #[.agg #[.int .i64 p.num, .int .i64 p.den], .agg #[.int .i64 q.num, .int .i64 q.den]] w fun e w' =>
      (∃ n d err, e = .returned (.tuple #[.agg #[.int .i64 n, .int .i64 d], err]) ∧ ResF E (goodR (p + q)) n d err) ∧ Below w.heap.size w w' := by
  obtain ⟨a1, a2, a3, a4⟩ := num_le hp
  obtain ⟨b1, b2, b3, b4⟩ := num_le hq
  have c1 := prod_le a1 a2 b3 b4
  have c2 := prod_le b1 b2 a3 a4
  have c3 := prod_le (n := p.den) (d := q.den) (by omega) (by omega) b3 b4
  have HA := Lib.hid (add_divInt p q)
  have HM := Lib.hid make_any
  go_enter Tryd.func81, Tryd.ntmps81
  go_wp2_with fail
  refine (HM.out _ _ E _ (by omega) (by omega) (by omega) (by omega) (hE.below (by (repeat' (first | with_reducible exact Below.refl _ _ | with_reducible assumption | with_reducible refine Below.drew ?_ | with_reducible refine below_drewN ?_ _ | with_reducible refine Below.setCell ?_ ?_ _ | with_reducible refine Below.alloc ?_ ?_ _ | omega | (simp; done) | (simp; omega)))))).mono ?_
  rintro e w1 ⟨⟨n, d, err, rfl, hr⟩, hb⟩
  obtain ⟨k0, k1, k2⟩ := keepB hb (g := w.heap.size + 1 + 1) (blk_new (by simp))
  have hbw : Below w.heap.size w w1 := Below.trans (by (repeat' (first | with_reducible exact Below.refl _ _ | with_reducible assumption | with_reducible refine Below.drew ?_ | with_reducible refine below_drewN ?_ _ | with_reducible refine Below.setCell ?_ ?_ _ | with_reducible refine Below.alloc ?_ ?_ _ | omega | (simp; done) | (simp; omega)))) (hb.mono (by simp; omega))
  go_wp2_with fail
  refine bodyPost_ret (v := .tuple #[.agg #[.int .i64 n, .int .i64 d], err]) (by simp [results, Tryd.results81, go_sem, k0]) rfl ⟨⟨_, _, _, rfl, ?_⟩, by (repeat' (first | with_reducible exact Below.refl _ _ | with_reducible assumption | with_reducible refine Below.drew ?_ | with_reducible refine below_drewN ?_ _ | with_reducible refine Below.setCell ?_ ?_ _ | with_reducible refine Below.alloc ?_ ?_ _ | omega | (simp; done) | (simp; omega)))⟩
  rw [← HA.out]; exact hr

theorem neg_any (n d : Int) (w : World) :
    Calls Tryd.prog 84 #[.agg #[.int .i64 n, .int .i64 d]] w fun e w' => e = .returned (.agg #[.int .i64 (wrap64 (-n)), .int .i64 d]) ∧ Below w.heap.size w w' := by
  go_enter Tryd.func84, Tryd.ntmps84
  go_wp2
  refine bodyPost_ret (v := .agg #[.int .i64 (wrap64 (-n)), .int .i64 d]) (by simp [results, Tryd.results84, go_sem]) rfl ⟨rfl, by (repeat' (first | with_reducible exact Below.refl _ _ | with_reducible assumption | with_reducible refine Below.drew ?_ | with_reducible refine below_drewN ?_ _ | with_reducible refine Below.setCell ?_ ?_ _ | with_reducible refine Below.alloc ?_ ?_ _ | omega | (simp; done) | (simp; omega)))⟩

theorem mul_signed (p q : Rat) : signed (decide (p.num < 0) != decide (q.num < 0)) (mkRat ((p.num.natAbs * q.num.natAbs : Nat) : Int) (p.den * q.den)) = p * q := by
  have e : ((p.num.natAbs * q.num.natAbs : Nat) : Int) = (p.num.natAbs : Int) * (q.num.natAbs : Int) := by push_cast; rfl
  rw [Rat.mul_def', e]
  unfold signed
  by_cases h1 : p.num < 0 <;> by_cases h2 : q.num < 0 <;> simp only [h1, h2, decide_true, decide_false, bne_self_eq_false, if_false, Bool.false_eq_true, bne_iff_ne, ne_eq, Bool.true_eq_false, not_false_eq_true, if_true]
  · rw [show ((p.num.natAbs : Nat) : Int) = -p.num by omega, show ((q.num.natAbs : Nat) : Int) = -q.num by omega, Int.neg_mul_neg]
  · rw [show ((p.num.natAbs : Nat) : Int) = -p.num by omega, show ((q.num.natAbs : Nat) : Int) = q.num by omega, Int.neg_mul, Rat.neg_mkRat, Int.neg_neg]
  · rw [show ((p.num.natAbs : Nat) : Int) = p.num by omega, show ((q.num.natAbs : Nat) : Int) = -q.num by omega, Int.mul_neg, Rat.neg_mkRat, Int.neg_neg]
  · rw [show ((p.num.natAbs : Nat) : Int) = p.num by omega, show ((q.num.natAbs : Nat) : Int) = q.num by omega]

set_option maxHeartbeats 1000000 in
theorem opMul_any (p q : Rat) (E : Nat → Addr) (w : World) (hp : Good p) (hq : Good q) (hE : Env LF E w) :
    Calls Tryd.prog 85 #[.agg #[.int .i64 p.num, .int .i64 p.den], .agg #[.int .i64 q.num, .int .i64 q.den]] w fun e w' =>
      (∃ n d err, e = .returned (.tuple #[.agg #[.int .i64 n, .int .i64 d], err]) ∧ ResF E (goodR (p * q)) n d err) ∧ Below w.heap.size w w' := by
  obtain ⟨a1, a2, a3, a4⟩ := num_le hp
  obtain ⟨b1, b2, b3, b4⟩ := num_le hq
  have HM := Lib.hid times_any
  have HS := Lib.hid (mul_signed p q)
  have CP : Hid (Nat.gcd p.num.natAbs p.den = 1) := p.reduced
  have CQ : Hid (Nat.gcd q.num.natAbs q.den = 1) := q.reduced
  go_enter Tryd.func85, Tryd.ntmps85
  go_wp2_with fail
  go_region_held3 (fun w' => w'.cell? ⟨w.heap.size, 0, none⟩ = some (.int .i64 p.num) ∧ w'.cell? ⟨w.heap.size, 1, none⟩ = some (.int .i64 p.den) ∧ w'.cell? ⟨w.heap.size + 1, 0, none⟩ = some (.int .i64 q.num) ∧ w'.cell? ⟨w.heap.size + 1, 1, none⟩ = some (.int .i64 q.den)) (first | exact ⟨c0, c1, c2, c3⟩ | (refine ⟨?_, ?_, ?_, ?_⟩ <;> exact (by (repeat (first | (simp; done) | assumption | refine cell_set ?_ (by first | omega | (simp; done) | (simp; omega)) | refine cell_alloc ?_ | refine cell_drew ?_ | refine cell_drewN ?_)))) | go_keep)
    (first | (go_at_call 87; refine (size_any _ _ (by omega) (by omega)).mono ?_; rintro e w' ⟨rfl, rfl⟩) | (go_at_call 86; refine (HM.out _ p.num.natAbs p.den q.num.natAbs q.den E _ (by omega) (by omega) (by omega) (by omega) (by omega) (by omega) CP.out CQ.out (hE.below (by (repeat' (first | with_reducible exact Below.refl _ _ | with_reducible assumption | with_reducible refine Below.drew ?_ | with_reducible refine below_drewN ?_ _ | with_reducible refine Below.setCell ?_ ?_ _ | with_reducible refine Below.alloc ?_ ?_ _ | omega | (simp; done) | (simp; omega)))))).mono ?_; rintro e w1 ⟨⟨n, d, err, rfl, hr⟩, hb⟩; obtain ⟨k0, k1, k2⟩ := keepB hb (g := w.heap.size + 1 + 1) (blk_new (by simp)); have c0 : w1.cell? ⟨w.heap.size, 0, none⟩ = some (.int .i64 p.num) := cellOf hb (by (repeat (first | (simp; done) | assumption | refine cell_set ?_ (by first | omega | (simp; done) | (simp; omega)) | refine cell_alloc ?_ | refine cell_drew ?_ | refine cell_drewN ?_))); have c1 : w1.cell? ⟨w.heap.size, 1, none⟩ = some (.int .i64 p.den) := cellOf hb (by (repeat (first | (simp; done) | assumption | refine cell_set ?_ (by first | omega | (simp; done) | (simp; omega)) | refine cell_alloc ?_ | refine cell_drew ?_ | refine cell_drewN ?_))); have c2 : w1.cell? ⟨w.heap.size + 1, 0, none⟩ = some (.int .i64 q.num) := cellOf hb (by (repeat (first | (simp; done) | assumption | refine cell_set ?_ (by first | omega | (simp; done) | (simp; omega)) | refine cell_alloc ?_ | refine cell_drew ?_ | refine cell_drewN ?_))); have c3 : w1.cell? ⟨w.heap.size + 1, 1, none⟩ = some (.int .i64 q.den) := cellOf hb (by (repeat (first | (simp; done) | assumption | refine cell_set ?_ (by first | omega | (simp; done) | (simp; omega)) | refine cell_alloc ?_ | refine cell_drew ?_ | refine cell_drewN ?_)))))
  go_wp2_with fail
  have hbw : Below w.heap.size w w1 := Below.trans (by (repeat' (first | with_reducible exact Below.refl _ _ | with_reducible assumption | with_reducible refine Below.drew ?_ | with_reducible refine below_drewN ?_ _ | with_reducible refine Below.setCell ?_ ?_ _ | with_reducible refine Below.alloc ?_ ?_ _ | omega | (simp; done) | (simp; omega)))) (hb.mono (by simp; omega))
  refine bodyPost_ret (v := .tuple #[.agg #[.int .i64 n, .int .i64 d], err]) (by simp [results, Tryd.results85, go_sem, k0]) rfl ⟨⟨_, _, _, rfl, ?_⟩, by (repeat' (first | with_reducible exact Below.refl _ _ | with_reducible assumption | with_reducible refine Below.drew ?_ | with_reducible refine below_drewN ?_ _ | with_reducible refine Below.setCell ?_ ?_ _ | with_reducible refine Below.alloc ?_ ?_ _ | omega | (simp; done) | (simp; omega)))⟩
  rw [← HS.out]; exact hr

theorem div_signed (p q : Rat) : signed (decide (p.num < 0) != decide (q.num < 0)) (mkRat ((p.num.natAbs * q.den : Nat) : Int) (p.den * q.num.natAbs)) = p / q := by
  have h1 := p.den_pos
  have h2 := q.den_pos
  have e1 : p / q = Rat.divInt (p.num * q.den) (p.den * q.num) := by
    rw [Rat.div_def, Rat.inv_def]
    conv => lhs; lhs; rw [← Rat.num_divInt_den p]
    rw [Rat.divInt_mul_divInt]
  rw [e1, ← divInt_signed]
  have a1 : (p.num * q.den).natAbs = p.num.natAbs * q.den := by rw [Int.natAbs_mul]; rfl
  have a2 : ((p.den : Int) * q.num).natAbs = p.den * q.num.natAbs := by rw [Int.natAbs_mul]; rfl
  have a3 : (p.num * q.den < 0) ↔ p.num < 0 := by
    constructor
    · intro h; rcases Int.lt_or_le p.num 0 with hl | hl
      · exact hl
      · have := Int.mul_nonneg hl (show (0 : Int) ≤ q.den by omega); omega
    · intro h; exact Int.mul_neg_of_neg_of_pos h (by omega)
  have a4 : ((p.den : Int) * q.num < 0) ↔ q.num < 0 := by
    constructor
    · intro h; rcases Int.lt_or_le q.num 0 with hl | hl
      · exact hl
      · have := Int.mul_nonneg (show (0 : Int) ≤ p.den by omega) hl; omega
    · intro h; exact Int.mul_neg_of_pos_of_neg (by omega) h
  rw [a1, a2]
  simp only [a3, a4]

/-- what Div answers -/
def divR (p q : Rat) : Except Nat Rat := if q = 0 then .error 4 else goodR (p / q)

set_option maxHeartbeats 1000000 in
theorem opDiv_any (p q : Rat) (E : Nat → Addr) (w : World) (hp : Good p) (hq : Good q) (hE : Env LF E w) :
    Calls Tryd.prog 88 #[.agg #[.int .i64 p.num, .int .i64 p.den], .agg #[.int .i64 q.num, .int .i64 q.den]] w fun e w' =>
      (∃ n d err, e = .returned (.tuple #[.agg #[.int .i64 n, .int .i64 d], err]) ∧ ResF E (divR p q) n d err) ∧ Below w.heap.size w w' := by
  obtain ⟨a1, a2, a3, a4⟩ := num_le hp
  obtain ⟨b1, b2, b3, b4⟩ := num_le hq
  have HM := Lib.hid times_any
  have HS := Lib.hid (div_signed p q)
  have CP : Hid (Nat.gcd p.num.natAbs p.den = 1) := p.reduced
  have CQ : Hid (Nat.gcd q.den q.num.natAbs = 1) := (Nat.gcd_comm ..).trans q.reduced
  by_cases h0 : q.num = 0
  · have hq0 : q = 0 := Rat.num_eq_zero.1 h0
    have HD : Hid (divR p q = .error 4) := by show divR p q = _; unfold divR; rw [if_pos hq0]
    clear hq0
    have hz : (q.num == 0) = true := by simpa using h0
    clear h0
    obtain ⟨hc, hlt, _⟩ := hE.sent 4 (by decide)
    have hne : w.heap.size ≠ 4 := by omega
    have hne1 : 4 < w.heap.size + 1 ∧ 4 < w.heap.size + 1 + 1 ∧ 4 < w.heap.size + 1 + 1 + 1 ∧ 4 < w.heap.size + 1 + 1 + 1 + 1 := by omega
    go_enter Tryd.func88, Tryd.ntmps88
    go_wp2_with fail
    go_region
    all_goals go_wp2_with fail
    refine bodyPost_ret (v := .tuple #[.agg #[.int .i64 0, .int .i64 0], (.iface 122 (.pointer (some (E 4))))]) (by simp [results, Tryd.results88, go_sem]) rfl ⟨⟨_, _, _, rfl, ?_⟩, by (repeat' (first | with_reducible exact Below.refl _ _ | with_reducible assumption | with_reducible refine Below.drew ?_ | with_reducible refine below_drewN ?_ _ | with_reducible refine Below.setCell ?_ ?_ _ | with_reducible refine Below.alloc ?_ ?_ _ | omega | (simp; done) | (simp; omega)))⟩
    rw [HD.out]; exact ⟨rfl, rfl, rfl⟩
  · have hq0 : ¬ q = 0 := fun h => h0 (Rat.num_eq_zero.2 h)
    have HD : Hid (divR p q = goodR (p / q)) := by show divR p q = _; unfold divR; rw [if_neg hq0]
    clear hq0
    have hz : (q.num == 0) = false := by simpa using h0
    go_enter Tryd.func88, Tryd.ntmps88
    go_wp2_with fail
    go_region_held3 (fun w' => w'.cell? ⟨w.heap.size, 0, none⟩ = some (.int .i64 p.num) ∧ w'.cell? ⟨w.heap.size, 1, none⟩ = some (.int .i64 p.den) ∧ w'.cell? ⟨w.heap.size + 1, 0, none⟩ = some (.int .i64 q.num) ∧ w'.cell? ⟨w.heap.size + 1, 1, none⟩ = some (.int .i64 q.den)) (first | exact ⟨c0, c1, c2, c3⟩ | (refine ⟨?_, ?_, ?_, ?_⟩ <;> exact (by (repeat (first | (simp; done) | assumption | refine cell_set ?_ (by first | omega | (simp; done) | (simp; omega)) | refine cell_alloc ?_ | refine cell_drew ?_ | refine cell_drewN ?_)))) | go_keep)
      (first | (go_at_call 87; refine (size_any _ _ (by omega) (by omega)).mono ?_; rintro e w' ⟨rfl, rfl⟩) | (go_at_call 86; refine (HM.out _ p.num.natAbs p.den q.den q.num.natAbs E _ (by omega) (by omega) (by omega) (by omega) (by omega) (by omega) CP.out CQ.out (hE.below (by (repeat' (first | with_reducible exact Below.refl _ _ | with_reducible assumption | with_reducible refine Below.drew ?_ | with_reducible refine below_drewN ?_ _ | with_reducible refine Below.setCell ?_ ?_ _ | with_reducible refine Below.alloc ?_ ?_ _ | omega | (simp; done) | (simp; omega)))))).mono ?_; rintro e w1 ⟨⟨n, d, err, rfl, hr⟩, hb⟩; obtain ⟨k0, k1, k2⟩ := keepB hb (g := w.heap.size + 1 + 1) (blk_new (by simp)); have c0 : w1.cell? ⟨w.heap.size, 0, none⟩ = some (.int .i64 p.num) := cellOf hb (by (repeat (first | (simp; done) | assumption | refine cell_set ?_ (by first | omega | (simp; done) | (simp; omega)) | refine cell_alloc ?_ | refine cell_drew ?_ | refine cell_drewN ?_))); have c1 : w1.cell? ⟨w.heap.size, 1, none⟩ = some (.int .i64 p.den) := cellOf hb (by (repeat (first | (simp; done) | assumption | refine cell_set ?_ (by first | omega | (simp; done) | (simp; omega)) | refine cell_alloc ?_ | refine cell_drew ?_ | refine cell_drewN ?_))); have c2 : w1.cell? ⟨w.heap.size + 1, 0, none⟩ = some (.int .i64 q.num) := cellOf hb (by (repeat (first | (simp; done) | assumption | refine cell_set ?_ (by first | omega | (simp; done) | (simp; omega)) | refine cell_alloc ?_ | refine cell_drew ?_ | refine cell_drewN ?_))); have c3 : w1.cell? ⟨w.heap.size + 1, 1, none⟩ = some (.int .i64 q.den) := cellOf hb (by (repeat (first | (simp; done) | assumption | refine cell_set ?_ (by first | omega | (simp; done) | (simp; omega)) | refine cell_alloc ?_ | refine cell_drew ?_ | refine cell_drewN ?_)))))
    go_wp2_with fail
    have hbw : Below w.heap.size w w1 := Below.trans (by (repeat' (first | with_reducible exact Below.refl _ _ | with_reducible assumption | with_reducible refine Below.drew ?_ | with_reducible refine below_drewN ?_ _ | with_reducible refine Below.setCell ?_ ?_ _ | with_reducible refine Below.alloc ?_ ?_ _ | omega | (simp; done) | (simp; omega)))) (hb.mono (by simp; omega))
    refine bodyPost_ret (v := .tuple #[.agg #[.int .i64 n, .int .i64 d], err]) (by simp [results, Tryd.results88, go_sem, k0]) rfl ⟨⟨_, _, _, rfl, ?_⟩, by (repeat' (first | with_reducible exact Below.refl _ _ | with_reducible assumption | with_reducible refine Below.drew ?_ | with_reducible refine below_drewN ?_ _ | with_reducible refine Below.setCell ?_ ?_ _ | with_reducible refine Below.alloc ?_ ?_ _ | omega | (simp; done) | (simp; omega)))⟩
    rw [HD.out, ← HS.out]; exact hr

end Go.Proofs.YtmankldedhgdiaaDoor
