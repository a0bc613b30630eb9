/- bounded, fr, Grow: walks. -/
import Derived.Test.YtcbglkkmblmbnaaDoorOnce
namespace Go.Proofs.YtcbglkkmblmbnaaDoor
open Go.RowKit

/-- the sentinels of index -/
def LI : List Nat := [1, 5, 2, 4, 6]

/-- the same, and ErrMany -/
def LM : List Nat := [1, 5, 2, 4, 0, 6]

/-- a whole number, or an error -/
def ResN (E : Nat → Addr) (r : Except Nat Int) (n : Int) (err : Value) : Prop :=
  match r with
  | .ok k => n = k ∧ err = .nilIface
  | .error g => n = 0 ∧ err = .iface 106 (.pointer (some (E g)))

def RetN (E : Nat → Addr) (r : Except Nat Int) (e : Ending) : Prop := ∃ n err, e = .returned (.tuple #[.int .i64 n, err]) ∧ ResN E r n err

theorem retN_ok {E : Nat → Addr} {r : Except Nat Int} {k : Int} (h : r = .ok k) : RetN E r (.returned (.tuple #[.int .i64 k, .nilIface])) := by subst h; exact ⟨_, _, rfl, rfl, rfl⟩

theorem retN_err {E : Nat → Addr} {r : Except Nat Int} {g : Nat} (h : r = .error g) : RetN E r (.returned (.tuple #[.int .i64 0, .iface 106 (.pointer (some (E g)))])) := by subst h; exact ⟨_, _, rfl, rfl, rfl⟩

def bdB (n m : Int) : Bool := decide (-m ≤ n) && decide (n ≤ m)

theorem bdB_yes {n m : Int} (h1 : -m ≤ n) (h2 : n ≤ m) : bdB n m = true := by unfold bdB; rw [decide_eq_true h1, decide_eq_true h2]; rfl

theorem bdB_no {n m : Int} (h : n < -m ∨ m < n) : bdB n m = false := by
  unfold bdB
  rcases h with h | h
  · rw [decide_eq_false (by omega)]; rfl
  · rw [decide_eq_false (show ¬ n ≤ m by omega), Bool.and_false]

theorem bdB_of {n m : Int} (h : bdB n m = true) : -m ≤ n ∧ n ≤ m := by
  unfold bdB at h
  rw [Bool.and_eq_true, decide_eq_true_eq, decide_eq_true_eq] at h; exact h

theorem bdB_not {n m : Int} (h : bdB n m = false) : n < -m ∨ m < n := by
  rcases Int.lt_or_le n (-m) with h1 | h1
  · exact .inl h1
  · rcases Int.lt_or_le m n with h2 | h2
    · exact .inr h2
    · rw [bdB_yes h1 h2] at h; cases h

theorem bounded_is (n m : Int) (b : Bool) (w : World) (h : bdB n m = b) (m0 : 0 ≤ m) (m1 : m ≤ 1000000000000) :
    Calls Tryd.prog 50 #[.int .i64 n, .int .i64 m] w fun e w' => e = .returned (.bool b) ∧ w = w' := by
  cases b
  · rcases bdB_not h with h1 | h1
    · clear h
      have h2 : decide (-m ≤ n) = false := decide_eq_false (by omega)
      go_enter Tryd.func50, Tryd.ntmps50
      go_wp2
      go_ret
      exact ⟨rfl, rfl⟩
    · clear h
      have h2 : decide (-m ≤ n) = true := decide_eq_true (by omega)
      have h3 : decide (n ≤ m) = false := decide_eq_false (by omega)
      go_enter Tryd.func50, Tryd.ntmps50
      go_wp2
      go_ret
      exact ⟨rfl, rfl⟩
  · obtain ⟨h1, h3⟩ := bdB_of h
    clear h
    go_enter Tryd.func50, Tryd.ntmps50
    go_wp2
    go_ret
    exact ⟨rfl, rfl⟩

theorem fr16_any (n d : Int) (w : World) : Calls Tryd.prog 28 #[.int .i64 n, .int .i64 d] w fun e w' => e = .returned (.agg #[.int .i64 n, .int .i64 d]) ∧ Below w.heap.size w w' := by
  go_enter Tryd.func28, Tryd.ntmps28
  go_wp2
  refine bodyPost_ret (v := .agg #[.int .i64 n, .int .i64 d]) (by simp [results, Tryd.results28, go_sem]) rfl ⟨rfl, by (repeat' (first | with_reducible exact Below.refl _ _ | with_reducible assumption | with_reducible refine Below.drew ?_ | with_reducible refine below_drewN ?_ _ | with_reducible refine Below.setCell ?_ ?_ _ | with_reducible refine Below.alloc ?_ ?_ _ | omega | (simp; done) | (simp; omega)))⟩

/-- what Grow answers -/
def growI (a fn fd unit mode : Int) : Except Nat Int :=
  if validB fn fd = false then .error 2
  else if mode < 1 ∨ 6 < mode ∨ unit < 1 ∨ 1000000000000 < unit then .error 4
  else if a < -1000000000000 ∨ 1000000000000 < a then .error 1
  else match goodR ((a : Rat) * Rat.divInt fn fd) with
    | .error g => .error g
    | .ok x => match roundI x.num x.den mode unit 1 with
      | .error g => .error g
      | .ok y => .ok y.num

theorem growI_frac {a fn fd unit mode : Int} (h : validB fn fd = false) : growI a fn fd unit mode = .error 2 := by unfold growI; rw [if_pos h]

theorem growI_round {a fn fd unit mode : Int} (h : validB fn fd = true) (h2 : mode < 1 ∨ 6 < mode ∨ unit < 1 ∨ 1000000000000 < unit) : growI a fn fd unit mode = .error 4 := by
  unfold growI; rw [if_neg (by rw [h]; simp), if_pos h2]

theorem growI_range {a fn fd unit mode : Int} (h : validB fn fd = true) (h2 : ¬ (mode < 1 ∨ 6 < mode ∨ unit < 1 ∨ 1000000000000 < unit)) (h3 : a < -1000000000000 ∨ 1000000000000 < a) : growI a fn fd unit mode = .error 1 := by
  unfold growI; rw [if_neg (by rw [h]; simp), if_neg h2, if_pos h3]

theorem growI_good {a unit mode : Int} {f : Rat} (hf : Good f) (h2 : 1 ≤ mode ∧ mode ≤ 6 ∧ 1 ≤ unit ∧ unit ≤ 1000000000000) (h3 : -1000000000000 ≤ a ∧ a ≤ 1000000000000) :
    growI a f.num f.den unit mode = if Good ((a : Rat) * f) then (match roundI ((a : Rat) * f).num ((a : Rat) * f).den mode unit 1 with | .error g => .error g | .ok y => .ok y.num) else .error 1 := by
  unfold growI
  have hv : validB f.num f.den = true := by rw [validB_good]; exact decide_eq_true hf
  rw [if_neg (by rw [hv]; simp), if_neg (by omega), if_neg (by omega), Rat.num_divInt_den]
  unfold goodR
  by_cases h : Good ((a : Rat) * f)
  · rw [if_pos h, if_pos h]
  · rw [if_neg h, if_neg h]

set_option maxRecDepth 10000 in
set_option maxHeartbeats 8000000 in
theorem grow_any (a fn fd unit mode : Int) (E : Nat → Addr) (w : World) (Ba : -9223372036854775808 ≤ a ∧ a ≤ 9223372036854775807) (Bn : -9223372036854775808 ≤ fn ∧ fn ≤ 9223372036854775807) (Bd : -9223372036854775808 ≤ fd ∧ fd ≤ 9223372036854775807)
    (Bu : -9223372036854775808 ≤ unit ∧ unit ≤ 9223372036854775807) (Bm : -9223372036854775808 ≤ mode ∧ mode ≤ 9223372036854775807) (hE : Env LI E w) :
    Calls Tryd.prog 27 #[.int .i64 a, .agg #[.int .i64 fn, .int .i64 fd], .int .i64 unit, .int .i64 mode] w fun e w' => RetN E (growI a fn fd unit mode) e ∧ Below w.heap.size w w' := by
  obtain ⟨Ba1, Ba2⟩ := Ba
  obtain ⟨Bn1, Bn2⟩ := Bn
  obtain ⟨Bd1, Bd2⟩ := Bd
  obtain ⟨Bu1, Bu2⟩ := Bu
  obtain ⟨Bm1, Bm2⟩ := Bm
  have V := fracValid_any fn fd
  unfold pv at V
  have HE := Lib.hid hE
  clear hE
  cases hv : validB fn fd
  · rw [hv] at V
    have HV := Lib.hid V
    have Hv := Lib.hid hv
    clear V hv
    go_enter Tryd.func27, Tryd.ntmps27
    go_wp2_with fail
    refine (HV.out _ Bn1 Bn2 Bd1 Bd2).mono ?_
    rintro e w1 ⟨rfl, hb1⟩
    have hw1 : Below w.heap.size w w1 := stepH (by (repeat' (first | with_reducible exact Below.refl _ _ | with_reducible assumption | with_reducible refine Below.drew ?_ | with_reducible refine below_drewN ?_ _ | with_reducible refine Below.setCell ?_ ?_ _ | with_reducible refine Below.alloc ?_ ?_ _ | omega | (simp; done) | (simp; omega)))) hb1
    have F := keepH hb1 (g := w.heap.size) (blk_new rfl)
    have z1 := hw1.size
    clear hb1
    have cF := cellH F
    obtain ⟨lF, lF1, lF2⟩ := ltH F
    have hc' := (HE.out.below hw1).cell 2 (by decide)
    go_wp2_with fail
    go_region
    all_goals go_wp2_with fail
    all_goals go_ret2
    all_goals exact ⟨retN_err (growI_frac Hv.out), by (repeat' (first | with_reducible exact Below.refl _ _ | with_reducible assumption | with_reducible refine Below.drew ?_ | with_reducible refine below_drewN ?_ _ | with_reducible refine Below.setCell ?_ ?_ _ | with_reducible refine Below.alloc ?_ ?_ _ | omega | (simp; done) | (simp; omega)))⟩
  · rw [hv] at V
    have HV := Lib.hid V
    have Hv := Lib.hid hv
    clear V hv
    by_cases hp : mode < 1 ∨ 6 < mode ∨ unit < 1 ∨ 1000000000000 < unit
    · have HP := Lib.hid hp
      have four : mode < 1 ∨ (1 ≤ mode ∧ 6 < mode) ∨ (1 ≤ mode ∧ mode ≤ 6 ∧ unit < 1) ∨ (1 ≤ mode ∧ mode ≤ 6 ∧ 1 ≤ unit ∧ 1000000000000 < unit) := by omega
      clear hp
      rcases four with h1 | ⟨h1, h2⟩ | ⟨h1, h2, h3⟩ | ⟨h1, h2, h3, h4⟩
      all_goals
        go_enter Tryd.func27, Tryd.ntmps27
        go_wp2_with fail
        refine (HV.out _ Bn1 Bn2 Bd1 Bd2).mono ?_
        rintro e w2 ⟨rfl, hb2⟩
        have hw2 : Below w.heap.size w w2 := stepH (by (repeat' (first | with_reducible exact Below.refl _ _ | with_reducible assumption | with_reducible refine Below.drew ?_ | with_reducible refine below_drewN ?_ _ | with_reducible refine Below.setCell ?_ ?_ _ | with_reducible refine Below.alloc ?_ ?_ _ | omega | (simp; done) | (simp; omega)))) hb2
        have F := keepH hb2 (g := w.heap.size) (blk_new rfl)
        have z2 := hw2.size
        clear hb2
        have cF := cellH F
        obtain ⟨lF, lF1, lF2⟩ := ltH F
        have hc' := (HE.out.below hw2).cell 4 (by decide)
        go_wp2_with fail
        go_region
        all_goals go_wp2_with fail
        all_goals go_ret2
        all_goals exact ⟨retN_err (growI_round Hv.out HP.out), by (repeat' (first | with_reducible exact Below.refl _ _ | with_reducible assumption | with_reducible refine Below.drew ?_ | with_reducible refine below_drewN ?_ _ | with_reducible refine Below.setCell ?_ ?_ _ | with_reducible refine Below.alloc ?_ ?_ _ | omega | (simp; done) | (simp; omega)))⟩
    · have HP := Lib.hid hp
      have p1 : 1 ≤ mode := by omega
      have p2 : mode ≤ 6 := by omega
      have p3 : 1 ≤ unit := by omega
      have p4 : unit ≤ 1000000000000 := by omega
      clear hp
      cases hb : bdB a 1000000000000
      · have HB := Lib.hid hb
        clear hb
        go_enter Tryd.func27, Tryd.ntmps27
        go_wp2_with fail
        refine (HV.out _ Bn1 Bn2 Bd1 Bd2).mono ?_
        rintro e w3 ⟨rfl, hb3⟩
        have hw3 : Below w.heap.size w w3 := stepH (by (repeat' (first | with_reducible exact Below.refl _ _ | with_reducible assumption | with_reducible refine Below.drew ?_ | with_reducible refine below_drewN ?_ _ | with_reducible refine Below.setCell ?_ ?_ _ | with_reducible refine Below.alloc ?_ ?_ _ | omega | (simp; done) | (simp; omega)))) hb3
        have F := keepH hb3 (g := w.heap.size) (blk_new rfl)
        have z3 := hw3.size
        clear hb3
        have cF := cellH F
        obtain ⟨lF, lF1, lF2⟩ := ltH F
        go_wp2_with fail
        refine (bounded_is a 1000000000000 false _ HB.out (by omega) (by omega)).mono ?_
        rintro e w2 ⟨rfl, rfl⟩
        have hc' := (HE.out.below hw3).cell 1 (by decide)
        go_wp2_with fail
        go_region
        all_goals go_wp2_with fail
        all_goals go_ret2
        all_goals exact ⟨retN_err (growI_range Hv.out HP.out (bdB_not HB.out)), by (repeat' (first | with_reducible exact Below.refl _ _ | with_reducible assumption | with_reducible refine Below.drew ?_ | with_reducible refine below_drewN ?_ _ | with_reducible refine Below.setCell ?_ ?_ _ | with_reducible refine Below.alloc ?_ ?_ _ | omega | (simp; done) | (simp; omega)))⟩
      · obtain ⟨a1, a2⟩ := bdB_of hb
        have HB := Lib.hid hb
        clear hb
        obtain ⟨f, hf, rfl, rfl⟩ := good_of_validB Hv.out
        have HF := Lib.hid hf
        have HGA := Lib.hid (good_int (k := a) (by omega) (by omega))
        have HGU := Lib.hid (good_int (k := unit) (by omega) (by omega))
        have HG := Lib.hid (growI_good (a := a) hf ⟨p1, p2, p3, p4⟩ ⟨a1, a2⟩)
        clear hf
        go_enter Tryd.func27, Tryd.ntmps27
        go_wp2_with fail
        refine (HV.out _ Bn1 Bn2 Bd1 Bd2).mono ?_
        rintro e w4 ⟨rfl, hb4⟩
        have hw4 : Below w.heap.size w w4 := stepH (by (repeat' (first | with_reducible exact Below.refl _ _ | with_reducible assumption | with_reducible refine Below.drew ?_ | with_reducible refine below_drewN ?_ _ | with_reducible refine Below.setCell ?_ ?_ _ | with_reducible refine Below.alloc ?_ ?_ _ | omega | (simp; done) | (simp; omega)))) hb4
        have F := keepH hb4 (g := w.heap.size) (blk_new rfl)
        have z4 := hw4.size
        clear hb4
        have cF := cellH F
        obtain ⟨lF, lF1, lF2⟩ := ltH F
        go_wp2_with fail
        refine (bounded_is a 1000000000000 true _ HB.out (by omega) (by omega)).mono ?_
        rintro e w2 ⟨rfl, rfl⟩
        go_wp2_with fail
        refine (mul_int a f E _ HGA.out HF.out ((HE.out.below (by (repeat' (first | with_reducible exact Below.refl _ _ | with_reducible assumption | with_reducible refine Below.drew ?_ | with_reducible refine below_drewN ?_ _ | with_reducible refine Below.setCell ?_ ?_ _ | with_reducible refine Below.alloc ?_ ?_ _ | omega | (simp; done) | (simp; omega))))).sub (by decide))).mono ?_
        rintro e w5 ⟨⟨n', d', err, rfl, hr⟩, hb5⟩
        have hw5 : Below w.heap.size w w5 := stepH (by (repeat' (first | with_reducible exact Below.refl _ _ | with_reducible assumption | with_reducible refine Below.drew ?_ | with_reducible refine below_drewN ?_ _ | with_reducible refine Below.setCell ?_ ?_ _ | with_reducible refine Below.alloc ?_ ?_ _ | omega | (simp; done) | (simp; omega)))) hb5
        replace F := keepH hb5 F.out
        have z5 := hw5.size
        clear hb5 hw4 z4
        clear cF lF lF1 lF2
        have cF := cellH F
        obtain ⟨lF, lF1, lF2⟩ := ltH F
        rcases resF_two hr with ⟨hx, rfl, rfl, rfl⟩ | ⟨hx, rfl, rfl, rfl⟩
        rotate_left
        · have hen := fun w => eql_nil (E 1) w
          have HX := Lib.hid hx
          clear hr hx
          go_wp2_with fail
          go_ret2
          exact ⟨retN_err (by rw [HG.out, if_neg HX.out]), by (repeat' (first | with_reducible exact Below.refl _ _ | with_reducible assumption | with_reducible refine Below.drew ?_ | with_reducible refine below_drewN ?_ _ | with_reducible refine Below.setCell ?_ ?_ _ | with_reducible refine Below.alloc ?_ ?_ _ | omega | (simp; done) | (simp; omega)))⟩
        have HX := Lib.hid hx
        have BX := bds hx
        have BX5 : Hid (B5 ((a : Rat) * f).num ((a : Rat) * f).den mode unit 1) := ⟨⟨BX.1, BX.2.1⟩, ⟨BX.2.2.1, BX.2.2.2⟩, ⟨by omega, by omega⟩, ⟨by omega, by omega⟩, ⟨by omega, by omega⟩⟩
        clear hr hx
        generalize hxx : (a : Rat) * f = x at *
        have HXX := Lib.hid hxx
        clear hxx
        go_wp2_with fail
        refine (round_any x.num x.den mode unit 1 E _ BX5.out ((HE.out.below (by (repeat' (first | with_reducible exact Below.refl _ _ | with_reducible assumption | with_reducible refine Below.drew ?_ | with_reducible refine below_drewN ?_ _ | with_reducible refine Below.setCell ?_ ?_ _ | with_reducible refine Below.alloc ?_ ?_ _ | omega | (simp; done) | (simp; omega))))).sub (by decide))).mono ?_
        rintro e w6 ⟨⟨n', d', err, rfl, hr⟩, hb6⟩
        have hw6 : Below w.heap.size w w6 := stepH (by (repeat' (first | with_reducible exact Below.refl _ _ | with_reducible assumption | with_reducible refine Below.drew ?_ | with_reducible refine below_drewN ?_ _ | with_reducible refine Below.setCell ?_ ?_ _ | with_reducible refine Below.alloc ?_ ?_ _ | omega | (simp; done) | (simp; omega)))) hb6
        replace F := keepH hb6 (blk_old F.out)
        have X := keepH hb6 (g := w5.heap.size) (blk_new rfl)
        have z6 := hw6.size
        clear hb6 hw5 z5
        clear cF lF lF1 lF2
        have cF := cellH F
        obtain ⟨lF, lF1, lF2⟩ := ltH F
        have cX := cellH X
        obtain ⟨lX, lX1, lX2⟩ := ltH X
        cases hs : roundI x.num x.den mode unit 1
        · rename_i g
          rw [hs] at hr
          obtain ⟨rfl, rfl, rfl⟩ := hr
          have HS := Lib.hid hs
          clear hs
          have hen := fun w => eql_nil (E g) w
          go_wp2_with fail
          go_ret2
          exact ⟨retN_err (by rw [HG.out, if_pos HX.out, HS.out]), by (repeat' (first | with_reducible exact Below.refl _ _ | with_reducible assumption | with_reducible refine Below.drew ?_ | with_reducible refine below_drewN ?_ _ | with_reducible refine Below.setCell ?_ ?_ _ | with_reducible refine Below.alloc ?_ ?_ _ | omega | (simp; done) | (simp; omega)))⟩
        · rename_i y
          rw [hs] at hr
          obtain ⟨rfl, rfl, rfl⟩ := hr
          have HS := Lib.hid hs
          clear hs
          go_wp2_with fail
          go_ret2
          exact ⟨retN_ok (by rw [HG.out, if_pos HX.out, HS.out]), by (repeat' (first | with_reducible exact Below.refl _ _ | with_reducible assumption | with_reducible refine Below.drew ?_ | with_reducible refine below_drewN ?_ _ | with_reducible refine Below.setCell ?_ ?_ _ | with_reducible refine Below.alloc ?_ ?_ _ | omega | (simp; done) | (simp; omega)))⟩

end Go.Proofs.YtcbglkkmblmbnaaDoor
