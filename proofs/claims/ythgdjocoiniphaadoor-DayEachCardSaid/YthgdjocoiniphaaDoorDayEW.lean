/- The walk of DayEach. -/
import Derived.Test.YthgdjocoiniphaaDoorDayJ
import Derived.Deep.DeepCutAuto
namespace Go.Proofs.YthgdjocoiniphaaDoor
open Go.RowKit Go.Shelf
attribute [local go_sem] Oper.semAt_some

theorem funNil3 (f : Fn) (cap : Array Value) (w : World) : (binOp .eql 111 (.func f #[] cap) .nilFunc).run Tryd.prog w = .ok (.bool false) w := by kernel_rfl

/-- what holds behind some rounds: the count, the day from which on it is asked, and all that lies ahead of them -/
def DeI (r : List (Pc Unit)) (ib : Nat) (w7 : World) (pre : List Int) (W : World) : Prop := W.heap[ib]? = some (.cells #[.int .i64 pre.length] 3 (0, 0)) ∧ W.heap[ib + 1]? = some (.cells #[.int .i64 (atO pre)] 3 (0, 0)) ∧ Below ib w7 W ∧ pre = (daysL r).take pre.length
/-- .. where the loop is left -/
def DeX (r : List (Pc Unit)) (ib : Nat) (w7 : World) (stop : Int) (c : Code) (pre : List Int) (W : World) : Prop := ¬ pre <+: daysL r ∨ ((pre.length : Int) = stop ∧ c = .exit 2 ∧ DeI r ib w7 pre W)
theorem DeI_own {r : List (Pc Unit)} {ib B : Nat} {w7 : World} (h1 : ib ≤ w7.heap.size) (h2 : w7.heap.size ≤ B) : OwnFrom B (DeI r ib w7) := fun _ W W' row hs hg hr =>
  ⟨ownBlk hs.1 hg hr, ownBlk hs.2.1 hg hr, Below.grown hs.2.2.1 hg (by have := hs.2.2.1.size; omega) (fun k e => by have := (hr k e).1; omega), hs.2.2.2⟩
theorem DeX_own {r : List (Pc Unit)} {ib B : Nat} {w7 : World} {stop : Int} (c : Code) (h1 : ib ≤ w7.heap.size) (h2 : w7.heap.size ≤ B) : OwnFrom B (DeX r ib w7 stop c) := fun s W W' row hs hg hr => by
  rcases hs with h | ⟨h3, h4, h5⟩
  · exact .inl h
  · exact .inr ⟨h3, h4, DeI_own h1 h2 s W W' row h5 hg hr⟩

theorem prefix_day {r pre : List Int} {x p : Int} (h : (pre ++ [x]) <+: r) (hp : r[pre.length]? = some p) : x = p := by
  obtain ⟨t, rfl⟩ := h
  rw [List.append_assoc, List.getElem?_append_right (Nat.le_refl _), Nat.sub_self] at hp
  exact Option.some.inj hp
theorem take_day {r pre : List Int} {p : Int} (hpre : pre = r.take pre.length) (hp : r[pre.length]? = some p) : pre ++ [p] = r.take (pre.length + 1) := by
  rw [take_snoc hp, ← hpre]

set_option maxRecDepth 100000 in
set_option maxHeartbeats 16000000 in
theorem dayEach_x (l : List (Pc Unit)) (A : Option Addr) (c : Nat) (stop : Int) (w : World) (hT : Tabs w) (h1 : 300 < l.length) :
    Calls Tryd.prog 9 #[.slice A l.length c, .int .i64 stop] w fun e w' => e = .returned (.bool true) ∧ Below w.heap.size w w' := by
  have HFB := Lib.hid (fun w' (h : Below w.heap.size w w') => first3_any w' (hT.below h))
  have e1 : decide ((300 : Int) < (l.length : Int)) = true := decide_eq_true (by omega)
  clear hT
  go_enter Tryd.func9, Tryd.ntmps9
  go_wp2_with fail
  refine (HFB.out _ (by (repeat' (first | with_reducible exact Below.refl _ _ | with_reducible assumption | with_reducible refine Below.drew ?_ | with_reducible refine below_drewN ?_ _ | with_reducible refine Below.setCell ?_ ?_ _ | with_reducible refine Below.alloc ?_ ?_ _ | omega | (simp; done) | (simp; omega))))).mono ?_
  rintro e w1 ⟨rfl, hb1⟩
  have hw1 : Below w.heap.size w w1 := stepH (by (repeat' (first | with_reducible exact Below.refl _ _ | with_reducible assumption | with_reducible refine Below.drew ?_ | with_reducible refine below_drewN ?_ _ | with_reducible refine Below.setCell ?_ ?_ _ | with_reducible refine Below.alloc ?_ ?_ _ | omega | (simp; done) | (simp; omega)))) hb1
  have St := keepH hb1 (g := w.heap.size) (blk_old (blk_new rfl))
  have R := keepH hb1 (g := w.heap.size + 1) (blk_new (by simp))
  have z1 := hw1.size
  clear hb1
  have cSt := cellH St
  obtain ⟨lSt, lSt1, lSt2⟩ := ltH St
  have cR := cellH R
  obtain ⟨lR, lR1, lR2⟩ := ltH R
  have fzR := frozH R
  have cR9 := cellH (Lib.hid ((setBox R.out (.bool true))))
  go_wp2_with fail
  refine bodyPost_ret (v := .bool true) (by simp [results, Tryd.results9, go_sem, cR9]) rfl ⟨rfl, by (repeat' (first | with_reducible exact Below.refl _ _ | with_reducible assumption | with_reducible refine Below.drew ?_ | with_reducible refine below_drewN ?_ _ | with_reducible refine Below.setCell ?_ ?_ _ | with_reducible refine Below.alloc ?_ ?_ _ | omega | (simp; done) | (simp; omega)))⟩

set_option maxRecDepth 100000 in
set_option maxHeartbeats 16000000 in
theorem dayEach_a (l : List (Pc Unit)) (A : Option Addr) (c : Nat) (stop : Int) (E : Nat → Addr) (w : World) (hl : RowAt encU 2 w w.heap.size A l) (hT : Tabs w) (hE : Env LD E w) (h1 : l.length ≤ 300) (hb : ∃ p ∈ l, ¬ ValidS MD p) :
    Calls Tryd.prog 9 #[.slice A l.length c, .int .i64 stop] w fun e w' => e = .returned (.bool true) ∧ Below w.heap.size w w' := by
  have HFB := Lib.hid (fun w' (h : Below w.heap.size w w') => first3_any w' (hT.below h))
  have HLl := Lib.hid hl
  have HE := Lib.hid hE
  have e1 : decide ((300 : Int) < (l.length : Int)) = false := decide_eq_false (by omega)
  have HB := Lib.hid hb
  have hen := fun w => eql_nil (E 6) w
  clear hl hT hE hb
  go_enter Tryd.func9, Tryd.ntmps9
  go_wp2_with fail
  refine (HFB.out _ (by (repeat' (first | with_reducible exact Below.refl _ _ | with_reducible assumption | with_reducible refine Below.drew ?_ | with_reducible refine below_drewN ?_ _ | with_reducible refine Below.setCell ?_ ?_ _ | with_reducible refine Below.alloc ?_ ?_ _ | omega | (simp; done) | (simp; omega))))).mono ?_
  rintro e w1 ⟨rfl, hb1⟩
  have hw1 : Below w.heap.size w w1 := stepH (by (repeat' (first | with_reducible exact Below.refl _ _ | with_reducible assumption | with_reducible refine Below.drew ?_ | with_reducible refine below_drewN ?_ _ | with_reducible refine Below.setCell ?_ ?_ _ | with_reducible refine Below.alloc ?_ ?_ _ | omega | (simp; done) | (simp; omega)))) hb1
  have St := keepH hb1 (g := w.heap.size) (blk_old (blk_new rfl))
  have R := keepH hb1 (g := w.heap.size + 1) (blk_new (by simp))
  have z1 := hw1.size
  clear hb1
  have cSt := cellH St
  obtain ⟨lSt, lSt1, lSt2⟩ := ltH St
  have cR := cellH R
  obtain ⟨lR, lR1, lR2⟩ := ltH R
  go_wp2_with fail
  refine (makeS_bad l A c E _ (moved HLl.out (by (repeat' (first | with_reducible exact Below.refl _ _ | with_reducible assumption | with_reducible refine Below.drew ?_ | with_reducible refine below_drewN ?_ _ | with_reducible refine Below.setCell ?_ ?_ _ | with_reducible refine Below.alloc ?_ ?_ _ | omega | (simp; done) | (simp; omega))))) (by omega) HB.out ((HE.out.below (by (repeat' (first | with_reducible exact Below.refl _ _ | with_reducible assumption | with_reducible refine Below.drew ?_ | with_reducible refine below_drewN ?_ _ | with_reducible refine Below.setCell ?_ ?_ _ | with_reducible refine Below.alloc ?_ ?_ _ | omega | (simp; done) | (simp; omega))))).sub (by decide))).mono ?_
  rintro e w2 ⟨rfl, hb2⟩
  have hw2 : Below w.heap.size w w2 := stepH (by (repeat' (first | with_reducible exact Below.refl _ _ | with_reducible assumption | with_reducible refine Below.drew ?_ | with_reducible refine below_drewN ?_ _ | with_reducible refine Below.setCell ?_ ?_ _ | with_reducible refine Below.alloc ?_ ?_ _ | omega | (simp; done) | (simp; omega)))) hb2
  replace St := keepH hb2 St.out
  replace R := keepH hb2 R.out
  have z2 := hw2.size
  clear hb2 hw1 z1
  clear cSt lSt lSt1 lSt2 cR lR lR1 lR2
  have cSt := cellH St
  obtain ⟨lSt, lSt1, lSt2⟩ := ltH St
  have cR := cellH R
  obtain ⟨lR, lR1, lR2⟩ := ltH R
  have fzR := frozH R
  have cR9 := cellH (Lib.hid (blk_old (o := .cells #[.slice none 0 0] 77) (setBox R.out (.bool true))))
  go_wp2_with fail
  refine bodyPost_ret (v := .bool true) (by simp [results, Tryd.results9, go_sem, cR9]) rfl ⟨rfl, by (repeat' (first | with_reducible exact Below.refl _ _ | with_reducible assumption | with_reducible refine Below.drew ?_ | with_reducible refine below_drewN ?_ _ | with_reducible refine Below.setCell ?_ ?_ _ | with_reducible refine Below.alloc ?_ ?_ _ | omega | (simp; done) | (simp; omega)))⟩

set_option maxRecDepth 100000 in
set_option maxHeartbeats 16000000 in
theorem dayEach_g (l : List (Pc Unit)) (A : Option Addr) (c : Nat) (stop : Int) (w : World) (hl : RowAt encU 2 w w.heap.size A l) (hT : Tabs w) (h1 : l.length ≤ 300) (hv : ∀ p ∈ l, ValidS MD p) :
    Calls Tryd.prog 9 #[.slice A l.length c, .int .i64 stop] w fun e w' => e = .returned (.bool true) ∧ Below w.heap.size w w' := by
  have HFB := Lib.hid (fun w' (h : Below w.heap.size w w') => first3_any w' (hT.below h))
  have HLl := Lib.hid hl
  have e1 : decide ((300 : Int) < (l.length : Int)) = false := decide_eq_false (by omega)
  have HV := Lib.hid hv
  have hfn := funNil3 (.func 114)
  clear hl hT hv
  refine (callsIn_wide (n := 3)).1 ?_; refine callsIn_of_wp_marks Tryd.func9 rfl trivial ?_ rfl; simp only [Tryd.ntmps9, List.size_toArray, List.length_cons, List.length_nil, Nat.reduceAdd, Nat.reduceSub, Array.replicate_succ, Array.replicate_zero, List.push_toArray, List.append_toArray, List.nil_append, List.cons_append]
  gi_wp2_with fail
  first | refine wide_open ?_ | refine wide_open2 ?_
  refine (HFB.out _ (by (repeat' (first | with_reducible exact Below.refl _ _ | with_reducible assumption | with_reducible refine Below.drew ?_ | with_reducible refine below_drewN ?_ _ | with_reducible refine Below.setCell ?_ ?_ _ | with_reducible refine Below.alloc ?_ ?_ _ | omega | (simp; done) | (simp; omega))))).mono ?_
  rintro e w1 ⟨rfl, hb1⟩
  have hw1 : Below w.heap.size w w1 := stepH (by (repeat' (first | with_reducible exact Below.refl _ _ | with_reducible assumption | with_reducible refine Below.drew ?_ | with_reducible refine below_drewN ?_ _ | with_reducible refine Below.setCell ?_ ?_ _ | with_reducible refine Below.alloc ?_ ?_ _ | omega | (simp; done) | (simp; omega)))) hb1
  have St := keepH hb1 (g := w.heap.size) (blk_old (blk_new rfl))
  have R := keepH hb1 (g := w.heap.size + 1) (blk_new (by simp))
  have z1 := hw1.size
  clear hb1
  have cSt := cellH St
  obtain ⟨lSt, lSt1, lSt2⟩ := ltH St
  have cR := cellH R
  obtain ⟨lR, lR1, lR2⟩ := ltH R
  gi_wp2_with fail
  first | refine wide_open ?_ | refine wide_open2 ?_
  refine (makeS_ok l A c _ (moved HLl.out (by (repeat' (first | with_reducible exact Below.refl _ _ | with_reducible assumption | with_reducible refine Below.drew ?_ | with_reducible refine below_drewN ?_ _ | with_reducible refine Below.setCell ?_ ?_ _ | with_reducible refine Below.alloc ?_ ?_ _ | omega | (simp; done) | (simp; omega))))) (by omega) HV.out).mono ?_
  rintro e w2 ⟨⟨A3, c3, r, rfl, hrs, hA3, hss⟩, hb2⟩
  have hw2 : Below w.heap.size w w2 := stepH (by (repeat' (first | with_reducible exact Below.refl _ _ | with_reducible assumption | with_reducible refine Below.drew ?_ | with_reducible refine below_drewN ?_ _ | with_reducible refine Below.setCell ?_ ?_ _ | with_reducible refine Below.alloc ?_ ?_ _ | omega | (simp; done) | (simp; omega)))) hb2
  have HROW := Lib.hid hrs
  have CS := Lib.hid hss.canon
  have hrl : r.length ≤ 300 := by have h := hss.len; omega
  clear hrs hss
  replace St := keepH hb2 St.out
  replace R := keepH hb2 R.out
  have z2 := hw2.size
  clear hb2 hw1 z1
  clear cSt lSt lSt1 lSt2 cR lR lR1 lR2
  have cSt := cellH St
  obtain ⟨lSt, lSt1, lSt2⟩ := ltH St
  have cR := cellH R
  obtain ⟨lR, lR1, lR2⟩ := ltH R
  have aS : Below w2.heap.size w2 w2 := Below.refl _ _
  have yaS := aS.size
  gi_wp2_with fail
  first | refine wide_open ?_ | refine wide_open2 ?_
  refine (lenS_any r A3 c3 _ (moved HROW.out (by (repeat' (first | with_reducible exact Below.refl _ _ | with_reducible assumption | with_reducible refine Below.drew ?_ | with_reducible refine below_drewN ?_ _ | with_reducible refine Below.setCell ?_ ?_ _ | with_reducible refine Below.alloc ?_ ?_ _ | omega | (simp; done) | (simp; omega))))) (by omega) CS.out).mono ?_
  rintro e w3 ⟨rfl, hb3⟩
  have hw3 : Below w.heap.size w w3 := stepH (by (repeat' (first | with_reducible exact Below.refl _ _ | with_reducible assumption | with_reducible refine Below.drew ?_ | with_reducible refine below_drewN ?_ _ | with_reducible refine Below.setCell ?_ ?_ _ | with_reducible refine Below.alloc ?_ ?_ _ | omega | (simp; done) | (simp; omega)))) hb3
  replace aS : Below w2.heap.size w2 w3 := stepH (by (repeat' (first | with_reducible exact Below.refl _ _ | with_reducible assumption | with_reducible refine Below.drew ?_ | with_reducible refine below_drewN ?_ _ | with_reducible refine Below.setCell ?_ ?_ _ | with_reducible refine Below.alloc ?_ ?_ _ | omega | (simp; done) | (simp; omega)))) hb3
  replace yaS := aS.size
  replace St := keepH hb3 (blk_old St.out)
  replace R := keepH hb3 (blk_old R.out)
  have S := keepH hb3 (g := w2.heap.size) (blk_new rfl)
  have z3 := hw3.size
  clear hb3 hw2 z2
  clear cSt lSt lSt1 lSt2 cR lR lR1 lR2
  have cSt := cellH St
  obtain ⟨lSt, lSt1, lSt2⟩ := ltH St
  have cR := cellH R
  obtain ⟨lR, lR1, lR2⟩ := ltH R
  have cS := cellH S
  obtain ⟨lS, lS1, lS2⟩ := ltH S
  obtain ⟨DL, hDL⟩ : ∃ n, (daysL r).length = n := ⟨_, rfl⟩
  have HLEN : Hid (lenS r = (DL : Int)) := by show _ = _; rw [← hDL, daysL_len CS.out.rise]
  have HDL := Lib.hid hDL
  clear hDL
  rw [HLEN.out]
  by_cases h3 : 3000 < DL
  · have e2 : decide ((3000 : Int) < (DL : Int)) = true := decide_eq_true (by omega)
    have fzR := frozH R
    have cR9 := cellH (Lib.hid (setBox R.out (.bool true)))
    gi_wp2_with fail
    exact ⟨_, (by simp [results, Tryd.results9, go_sem, cR9]), rfl, by (repeat' (first | with_reducible exact Below.refl _ _ | with_reducible assumption | with_reducible refine Below.drew ?_ | with_reducible refine below_drewN ?_ _ | with_reducible refine Below.setCell ?_ ?_ _ | with_reducible refine Below.alloc ?_ ?_ _ | omega | (simp; done) | (simp; omega)))⟩
  have e2 : decide ((3000 : Int) < (DL : Int)) = false := decide_eq_false (by omega)
  gi_wp2_with fail
  first | refine wide_open ?_ | refine wide_open2 ?_
  refine (days_any A3 r.length c3 _).mono ?_
  rintro e w4 ⟨⟨Bx, rfl, hBx, hbox⟩, hb4⟩
  have hw4 : Below w.heap.size w w4 := stepH (by (repeat' (first | with_reducible exact Below.refl _ _ | with_reducible assumption | with_reducible refine Below.drew ?_ | with_reducible refine below_drewN ?_ _ | with_reducible refine Below.setCell ?_ ?_ _ | with_reducible refine Below.alloc ?_ ?_ _ | omega | (simp; done) | (simp; omega)))) hb4
  replace aS : Below w2.heap.size w2 w4 := stepH (by (repeat' (first | with_reducible exact Below.refl _ _ | with_reducible assumption | with_reducible refine Below.drew ?_ | with_reducible refine below_drewN ?_ _ | with_reducible refine Below.setCell ?_ ?_ _ | with_reducible refine Below.alloc ?_ ?_ _ | omega | (simp; done) | (simp; omega)))) hb4
  replace yaS := aS.size
  have HBOX := hbox
  clear hbox
  replace St := keepH hb4 St.out
  replace R := keepH hb4 R.out
  replace S := keepH hb4 S.out
  have z4 := hw4.size
  clear hb4 hw3 z3
  clear cSt lSt lSt1 lSt2 cR lR lR1 lR2 cS lS lS1 lS2
  have cSt := cellH St
  obtain ⟨lSt, lSt1, lSt2⟩ := ltH St
  have cR := cellH R
  obtain ⟨lR, lR1, lR2⟩ := ltH R
  have cS := cellH S
  obtain ⟨lS, lS1, lS2⟩ := ltH S
  gi_wp2_with fail
  have RB : Hid ((w4.alloc (.cells #[.int .i64 0] 3)).heap[w4.heap.size]? = some (.cells #[.int .i64 0] 3 (0, 0))) := blk_new rfl
  have St6 := Lib.hid (blk_old (o := .cells #[.int .i64 0] 3) St.out)
  have R6 := Lib.hid (blk_old (o := .cells #[.int .i64 0] 3) R.out)
  have SB6 := Lib.hid (blk_old (o := .cells #[.int .i64 0] 3) S.out)
  have BX6 := Lib.hid (blk_old (o := .cells #[.int .i64 0] 3) HBOX.out)
  have hw6 : Below w.heap.size w (w4.alloc (.cells #[.int .i64 0] 3)) := by (repeat' (first | with_reducible exact Below.refl _ _ | with_reducible assumption | with_reducible refine Below.drew ?_ | with_reducible refine below_drewN ?_ _ | with_reducible refine Below.setCell ?_ ?_ _ | with_reducible refine Below.alloc ?_ ?_ _ | omega | (simp; done) | (simp; omega)))
  have hx6 : Below w2.heap.size w2 (w4.alloc (.cells #[.int .i64 0] 3)) := by (repeat' (first | with_reducible exact Below.refl _ _ | with_reducible assumption | with_reducible refine Below.drew ?_ | with_reducible refine below_drewN ?_ _ | with_reducible refine Below.setCell ?_ ?_ _ | with_reducible refine Below.alloc ?_ ?_ _ | omega | (simp; done) | (simp; omega)))
  have hu6 : w4.heap.size < (w4.alloc (.cells #[.int .i64 0] 3)).heap.size := by simp
  obtain ⟨rb, hrb⟩ : ∃ rb, w4.heap.size = rb := ⟨_, rfl⟩
  obtain ⟨sb, hsb⟩ : ∃ sb, w2.heap.size = sb := ⟨_, rfl⟩
  have hsb0 : w2.heap.size ≤ sb := by omega
  rw [hsb] at SB6 ⊢
  have hhB := lt_of_H HBOX
  have hhS := lt_of_H S
  rw [hsb] at hhS
  clear cSt lSt lSt1 lSt2 cR lR lR1 lR2 cS lS lS1 lS2 St R S HBOX hw4 aS yaS
  generalize (w4.alloc (.cells #[.int .i64 0] 3)) = w6 at *
  rw [hrb] at RB hu6 hhB hhS ⊢
  clear hrb
  have cRB := cellH RB
  have cS6 := cellH SB6
  refine wpIn_loop_rounds 3 ?_
  rw [roundsIn_succ]
  gi_wp2_with fail
  have IB7 : Hid (((w6.alloc (.cells #[.int .i64 0] 3)).alloc (.cells #[.int .i64 0] 3)).heap[w6.heap.size]? = some (.cells #[.int .i64 0] 3 (0, 0))) := blk_old (blk_new rfl)
  have AB7 : Hid (((w6.alloc (.cells #[.int .i64 0] 3)).alloc (.cells #[.int .i64 0] 3)).heap[w6.heap.size + 1]? = some (.cells #[.int .i64 0] 3 (0, 0))) := blk_new (by simp)
  have St7 := Lib.hid (blk_old (o := .cells #[.int .i64 0] 3) (blk_old (o := .cells #[.int .i64 0] 3) St6.out))
  have R7 := Lib.hid (blk_old (o := .cells #[.int .i64 0] 3) (blk_old (o := .cells #[.int .i64 0] 3) R6.out))
  have SB7 := Lib.hid (blk_old (o := .cells #[.int .i64 0] 3) (blk_old (o := .cells #[.int .i64 0] 3) SB6.out))
  have BX7 := Lib.hid (blk_old (o := .cells #[.int .i64 0] 3) (blk_old (o := .cells #[.int .i64 0] 3) BX6.out))
  have RB7 := Lib.hid (blk_old (o := .cells #[.int .i64 0] 3) (blk_old (o := .cells #[.int .i64 0] 3) RB.out))
  have zw6 := hw6.size
  have zx6 := hx6.size
  have hw7 : Below w.heap.size w ((w6.alloc (.cells #[.int .i64 0] 3)).alloc (.cells #[.int .i64 0] 3)) := by (repeat' (first | with_reducible exact Below.refl _ _ | with_reducible assumption | with_reducible refine Below.drew ?_ | with_reducible refine below_drewN ?_ _ | with_reducible refine Below.setCell ?_ ?_ _ | with_reducible refine Below.alloc ?_ ?_ _ | omega | (simp; done) | (simp; omega)))
  have hx7 : Below w2.heap.size w2 ((w6.alloc (.cells #[.int .i64 0] 3)).alloc (.cells #[.int .i64 0] 3)) := by (repeat' (first | with_reducible exact Below.refl _ _ | with_reducible assumption | with_reducible refine Below.drew ?_ | with_reducible refine below_drewN ?_ _ | with_reducible refine Below.setCell ?_ ?_ _ | with_reducible refine Below.alloc ?_ ?_ _ | omega | (simp; done) | (simp; omega)))
  have hu7 : w6.heap.size + 1 < ((w6.alloc (.cells #[.int .i64 0] 3)).alloc (.cells #[.int .i64 0] 3)).heap.size := by simp
  have l7St := lt_of_H St6
  have l7R := lt_of_H R6
  have l7S := lt_of_H SB6
  have l7B := lt_of_H BX6
  have l7RB := lt_of_H RB
  obtain ⟨ib, hib⟩ : ∃ ib, w6.heap.size = ib := ⟨_, rfl⟩
  clear St6 R6 SB6 BX6 RB hw6 hx6 cRB cS6
  generalize ((w6.alloc (.cells #[.int .i64 0] 3)).alloc (.cells #[.int .i64 0] 3)) = w7 at *
  rw [hib] at IB7 AB7 hu7 l7St l7R l7S l7B l7RB zw6 zx6 ⊢
  clear hib
  have HA7 : RowAt encU 2 w7 ib A3 r := (HROW.out.below hx7 (Nat.le_refl _)).more zx6
  generalize ha : Act.mk _ _ = a0
  refine wpIn_rangeFunc_ownH rfl (by decide) (gf := 114) (lb := #[.pointer (some ⟨Bx, 0, none⟩)]) (by rw [← ha]; rfl) trivial (enters_of Tryd.func114 (by kernel_rfl) rfl)
    (days1_stops r A3 c3 (by omega) CS.out.valid (3 - 1) Bx ib l7B w7 (by omega) BX7 HA7)
    KeepC.trans (fun W l o o' hl h q1 q2 => keepC_b (m := ib) (h0 := w7.heap.size) (w := w7) (by omega) W l o o' hl h q1 q2) (Below.refl _ _) (fun x => rfl)
    (DeI r ib w7) (DeX r ib w7 stop) (DeI_own (by omega) (Nat.le_refl _)) (fun c => DeX_own c (by omega) (Nat.le_refl _)) ⟨IB7.out, AB7.out, Below.refl _ _, rfl⟩
    (fun x a' W => a' = { tmps := ((a0.tmps.setIfInBounds 45 (.int .i64 x)).setIfInBounds 12 (.int .i64 x)), defers := [] })
    (fun x a' s W W' row hs hg hr => hs) ?assign ?body ?done ?stop
  case assign =>
    intro l9 pre x W K hI hK
    subst ha
    gi_wp2_with fail
    have h9 := hK _ _ (KeepsFrom.refl _ _) (KeepC.refl _ _ _) hI rfl
    simp only [List.setIfInBounds_toArray, List.set_cons_zero, List.set_cons_succ] at h9
    exact h9
  case body =>
    rintro l9 pre x a' wq hl9 ⟨rr, hrr⟩ ⟨i1, i4, i2, i3⟩ rfl hlt
    have zq := i2.size
    subst ha
    try simp only [List.setIfInBounds_toArray, List.set_cons_zero, List.set_cons_succ]
    have St8 : Hid (wq.heap[w.heap.size]? = some (.cells #[.int .i64 stop] 3 (0, 0))) := (i2.block _ l7St).trans St7.out
    have R8 : Hid (wq.heap[w.heap.size + 1]? = some (.cells #[.bool false] 4 (0, 0))) := (i2.block _ l7R).trans R7.out
    have SB8 : Hid (wq.heap[sb]? = some (.cells #[.slice A3 r.length c3] 77 (0, 0))) := (i2.block _ l7S).trans SB7.out
    have RB8 : Hid (wq.heap[rb]? = some (.cells #[.int .i64 0] 3 (0, 0))) := (i2.block _ l7RB).trans RB7.out
    have IB8 : Hid (wq.heap[ib]? = some (.cells #[.int .i64 pre.length] 3 (0, 0))) := i1
    have AB8 : Hid (wq.heap[ib + 1]? = some (.cells #[.int .i64 (atO pre)] 3 (0, 0))) := i4
    have hx8 : Below w2.heap.size w2 wq := hx7.trans (i2.mono zx6)
    obtain ⟨y, hp⟩ : ∃ p, (daysL r)[pre.length]? = some p := ⟨_, List.getElem?_eq_getElem hlt⟩
    obtain ⟨hn1, hn2, hn3⟩ := next_day CS.out.rise i3 hp
    have HNX := Lib.hid hn1
    have HHB := Lib.hid hn2
    have HY9 : Hid (0 ≤ y ∧ y < 3652059) := ⟨hn3, by obtain ⟨q, hq, _, q2⟩ := hasB_iff.1 hn2; have := CS.out.upTo q hq; dsimp only [MD] at this; omega⟩
    have HP := Lib.hid hp
    have HI2 := Lib.hid i2
    have HI3 := Lib.hid i3
    have hlD : pre.length < DL := by rw [← HDL.out]; exact hlt
    clear hp i1 i2 i3 i4 hn1 hn2 hn3 hlt
    have HCL : Hid (∀ k ∈ [w.heap.size + 1], ∃ cs t z, wq.heap[k]? = some (.cells cs t z)) := by
      intro k hk
      simp only [List.mem_cons, List.not_mem_nil, or_false] at hk
      subst hk
      exact ⟨_, _, _, R8.out⟩
    have HCI : Hid (∀ k ∈ [ib, ib + 1], ∃ cs t z, wq.heap[k]? = some (.cells cs t z)) := by
      intro k hk
      simp only [List.mem_cons, List.not_mem_nil, or_false] at hk
      rcases hk with rfl | rfl
      · exact ⟨_, _, _, IB8.out⟩
      · exact ⟨_, _, _, AB8.out⟩
    have cS8 := cellH SB8
    have cA8 := cellH AB8
    gi_wp2_with fail
    first | refine round_open ?_ | refine round_open2 ?_ | refine round_open3 ?_ | refine round_open4 ?_
    refine (nextS_any r A3 c3 (atO pre) wq (moved HROW.out hx8) (by omega)).mono ?_
    rw [HNX.out]
    rintro e wv ⟨rfl, hb2⟩
    have hoI : OnlyL [ib, ib + 1] wq wv := OnlyL.step (OnlyL.refl _ _) hb2
    have hoW : OnlyL [w.heap.size + 1] wq wv := OnlyL.step (OnlyL.refl _ _) hb2
    have hx9 : Below w2.heap.size w2 wv := hx8.trans (hb2.mono hx8.size)
    have RB9 := keepH hb2 RB8.out
    have St9 := keepH hb2 St8.out
    have R9 := keepH hb2 R8.out
    have IB9 := keepH hb2 IB8.out
    have AB9 := keepH hb2 AB8.out
    have SB9 := keepH hb2 SB8.out
    have zw2 := hb2.size
    clear hb2 cS8 cA8
    dsimp only [nxV, Option.getD_some, Option.isSome_some]
    by_cases hxy : x = y
    · have e3 : (x != y) = false := by simp [hxy]
      have HXY := Lib.hid hxy
      have cS9 := cellH SB9
      clear hxy
      gi_wp2_with fail
      first | refine round_open ?_ | refine round_open2 ?_ | refine round_open3 ?_ | refine round_open4 ?_
      refine (hasS_any r A3 c3 x wv (moved HROW.out hx9) (by omega)).mono ?_
      rw [show hasB r x = true from by rw [HXY.out]; exact HHB.out]
      rintro e wu ⟨rfl, hb3⟩
      replace hoI : OnlyL [ib, ib + 1] wq wu := OnlyL.step hoI hb3
      have RB9 := keepH hb3 RB9.out
      have St9 := keepH hb3 St9.out
      have IB9 := keepH hb3 IB9.out
      have AB9 := keepH hb3 AB9.out
      have zw3 := hb3.size
      clear hb3 cS9 SB9 R9
      obtain ⟨wz, hwz⟩ : ∃ wz, (wu.setCell ⟨ib + 1, 0, none⟩ (.int .i64 (x + 1))).setCell ⟨ib, 0, none⟩ (.int .i64 ((pre.length : Int) + 1)) = wz := ⟨_, rfl⟩
      have hoZ : OnlyL [ib, ib + 1] wq wz := by rw [← hwz]; exact OnlyL.setCell (OnlyL.setCell hoI (.inl (by simp)) _) (.inl (by simp)) _
      have HLI : Hid (DeI r ib w7 (pre ++ [x]) wz) := by
        refine ⟨?_, ?_, HI2.out.trans (OnlyL.below hoZ (by omega) (fun k hk => by simp only [List.mem_cons, List.not_mem_nil, or_false] at hk; omega)), ?_⟩
        · rw [← hwz, show ((pre ++ [x]).length : Int) = (pre.length : Int) + 1 by simp]
          exact setBox (setOther IB9.out (by show ib ≠ ib + 1; omega)) _
        · rw [← hwz, atO_snoc]
          exact setOther (setBox AB9.out _) (by show ib + 1 ≠ ib; omega)
        · rw [List.length_append, List.length_singleton, HXY.out]
          exact take_day HI3.out HP.out
      have HKF := Lib.hid (OnlyL.from hoZ w7.heap.size HCI.out)
      have HKB : Hid (KeepC ib w7.heap.size wq wz) := KeepC.only hoZ (by omega) (fun k hk => by simp only [List.mem_cons, List.not_mem_nil, or_false] at hk; omega)
      have cI9 := cellH IB9
      have fI9 := frozH IB9
      have cA9 := cellH AB9
      have fA9 := frozH AB9
      have cB9 := cellH RB9
      have cT9 := cellH St9
      have cI10 := cellH (Lib.hid (setOther (p := ⟨ib + 1, 0, none⟩) (u := .int .i64 (x + 1)) IB9.out (by show ib ≠ ib + 1; omega)))
      have kw : IntKind.i64.wrap ((pre.length : Int) + 1) = (pre.length : Int) + 1 := by rw [IntKind.wrap_i64]; omega
      have kx : IntKind.i64.wrap (x + 1) = x + 1 := by rw [IntKind.wrap_i64]; have := HXY.out; have := HY9.out; omega
      have n1 : ib ≠ rb := by omega
      have n2 : ib ≠ w.heap.size := by omega
      have n3 : ib + 1 ≠ rb := by omega
      have n4 : ib + 1 ≠ w.heap.size := by omega
      have n5 : ib ≠ ib + 1 := by omega
      have lI9 := lt_of_H IB9
      have lA9 := lt_of_H AB9
      gi_upto_region 22 with fail

      have hwz2 := hwz.symm
      have RBz : Hid (wz.heap[rb]? = some (.cells #[.int .i64 0] 3 (0, 0))) := by rw [hwz2]; exact setOther (setOther RB9.out (by show rb ≠ ib + 1; omega)) (by show rb ≠ ib; omega)
      have Stz : Hid (wz.heap[w.heap.size]? = some (.cells #[.int .i64 stop] 3 (0, 0))) := by rw [hwz2]; exact setOther (setOther St9.out (by show w.heap.size ≠ ib + 1; omega)) (by show w.heap.size ≠ ib; omega)
      have IBz : Hid (wz.heap[ib]? = some (.cells #[.int .i64 ((pre.length : Int) + 1)] 3 (0, 0))) := by rw [hwz2]; exact setBox (setOther IB9.out (by show ib ≠ ib + 1; omega)) _
      clear hwz hwz2 cI9 fI9 cA9 fA9 cB9 cT9 cI10 RB9 St9 IB9 AB9
      have cB9 := cellH RBz
      have cT9 := cellH Stz
      have cI9 := cellH IBz
      by_cases hst : (pre.length : Int) + 1 = stop
      · have e5 : ((pre.length : Int) + 1 == stop) = true := by simp [hst]
        have HST : Hid (((pre ++ [x]).length : Int) = stop) := by show _ = _; rw [← hst]; simp
        clear hst
        gi_wp2_with fail
        exact ⟨HKF.out, .inr ⟨HST.out, rfl, HLI.out⟩⟩
      · have e5 : ((pre.length : Int) + 1 == stop) = false := by simp [hst]
        clear hst
        gi_wp2_with fail
        exact ⟨HKF.out, HKB.out, HLI.out⟩
    · have e3 : (x != y) = true := by simp [hxy]
      have HXY := Lib.hid hxy
      have cR9 := cellH R9
      have fR9 := frozH R9
      clear RB9 St9 IB9 AB9 SB9
      gi_wp2_with fail
      refine ⟨trivial, ?_⟩
      gi_wp2_with fail
      exact ⟨OnlyL.from (L := [w.heap.size + 1]) (OnlyL.setCell hoW (.inl (List.mem_singleton.2 rfl)) _) _ HCL.out, .inl (fun h => HXY.out (prefix_day h HP.out))⟩
  case done =>
    intro D0 xs W hD0 hxs hI hK
    rw [hxs] at hI
    obtain ⟨i1, i4, i2, i3⟩ := hI
    rw [HDL.out] at i1
    subst ha
    have zq := i2.size
    have St8 : Hid (W.heap[w.heap.size]? = some (.cells #[.int .i64 stop] 3 (0, 0))) := (i2.block _ l7St).trans St7.out
    have R8 : Hid (W.heap[w.heap.size + 1]? = some (.cells #[.bool false] 4 (0, 0))) := (i2.block _ l7R).trans R7.out
    have SB8 : Hid (W.heap[sb]? = some (.cells #[.slice A3 r.length c3] 77 (0, 0))) := (i2.block _ l7S).trans SB7.out
    have BX8 : Hid (W.heap[Bx]? = some (.cells #[.slice A3 r.length c3] 77 (0, 0))) := (i2.block _ l7B).trans BX7.out
    have RB8 : Hid (W.heap[rb]? = some (.cells #[.int .i64 0] 3 (0, 0))) := (i2.block _ l7RB).trans RB7.out
    have HKD := Lib.hid hK
    have hw8 : Below w.heap.size w W := hw7.trans (i2.mono zw6)
    have hx8 : Below w2.heap.size w2 W := hx7.trans (i2.mono zx6)
    have IB8 : Hid (W.heap[ib]? = some (.cells #[.int .i64 DL] 3 (0, 0))) := i1
    have e6 : ((DL : Int) != (DL : Int)) = false := bne_self_eq_false _
    clear i1 i2 i3 i4 hK hxs
    have xI : W.cell? ⟨ib, 0, none⟩ = some (.int .i64 DL) := cellH IB8 0
    have xS : W.cell? ⟨sb, 0, none⟩ = some (.slice A3 r.length c3) := cellH SB8 0
    have xR : W.cell? ⟨rb, 0, none⟩ = some (.int .i64 0) := cellH RB8 0
    have xT : W.cell? ⟨w.heap.size, 0, none⟩ = some (.int .i64 stop) := cellH St8 0
    gi_wp2_with fail
    refine (wpIn_wide (n := 3)).2 ?_
    refine wp_onlyN ?_
    refine wp_region_held_drew (S := fun w' => w'.cell? ⟨ib, 0, none⟩ = some (.int .i64 DL) ∧ w'.cell? ⟨sb, 0, none⟩ = some (.slice A3 r.length c3) ∧ w'.cell? ⟨rb, 0, none⟩ = some (.int .i64 0) ∧ w'.cell? ⟨w.heap.size, 0, none⟩ = some (.int .i64 stop)) (by kernel_rfl) ?_ (fun hH0 => ?_)
    · exact ⟨xI, xS, xR, xT⟩
    refine wpAnyH_take (i := 0) (oi := { dst := some 76, op := Go.Op.load 3 (Go.Operand.tmp 10), type := 3, pos := "law.go:182", after := #[], guard := none }) (v := ?_) rfl (by kernel_rfl) (by kernel_rfl) (by kernel_rfl) (fun _ _ _ h => h) (Or.inl ⟨by rfl, ?_⟩) (by assumption) ?_
    rotate_left
    · intro wq hSw; (try dsimp only at hSw); go_simp; (try with_reducible rfl)
    try simp only [Act.put, List.setIfInBounds_toArray, List.set_cons_zero, List.set_cons_succ]
    refine wpAnyH_take (i := 1) (oi := { dst := some 77, op := Go.Op.load 77 (Go.Operand.tmp 6), type := 77, pos := "law.go:182", after := #[], guard := none }) (v := ?_) rfl (by kernel_rfl) (by kernel_rfl) (by kernel_rfl) (fun _ _ _ h => h) (Or.inl ⟨by rfl, ?_⟩) (by assumption) ?_
    rotate_left
    · intro wq hSw; (try dsimp only at hSw); go_simp; (try with_reducible rfl)
    try simp only [Act.put, List.setIfInBounds_toArray, List.set_cons_zero, List.set_cons_succ]
    refine wpAnyH_ready (rs := [2]) (by kernel_rfl) (by simp) ?_
    refine AllReadyH.cons (o := { dst := some 78, op := Go.Op.call { callee := Go.Callee.value (Go.Operand.func 60), args := #[Go.Operand.tmp 77], argTypes := #[77] }, type := 3, pos := "law.go:182", after := #[{ on := 1, ground := Go.Ground.data }], guard := none }) rfl (fun K hK => ?_) ?_
    rotate_left
    · exact AllReadyH.nil
    go_simp
    refine (lenS_any r A3 c3 _ (moved HROW.out hx8.drew) (by omega) CS.out).mono ?_
    rw [HLEN.out]
    rintro e wv ⟨rfl, hb2⟩
    replace hx8 : Below w2.heap.size w2 wv := stepH hx8.drew hb2
    replace hw8 : Below w.heap.size w wv := stepH hw8.drew hb2
    replace St8 := keepH hb2 (drew_old St8.out)
    replace R8 := keepH hb2 (drew_old R8.out)
    replace SB8 := keepH hb2 (drew_old SB8.out)
    replace BX8 := keepH hb2 (drew_old BX8.out)
    replace RB8 := keepH hb2 (drew_old RB8.out)
    replace HKD := keepH hb2 (drew_old HKD.out)
    replace xI : wv.cell? ⟨ib, 0, none⟩ = some (.int .i64 DL) := cellOf hb2 (cell_drew xI)
    replace xS : wv.cell? ⟨sb, 0, none⟩ = some (.slice A3 r.length c3) := cellOf hb2 (cell_drew xS)
    replace xR : wv.cell? ⟨rb, 0, none⟩ = some (.int .i64 0) := cellOf hb2 (cell_drew xR)
    replace xT : wv.cell? ⟨w.heap.size, 0, none⟩ = some (.int .i64 stop) := cellOf hb2 (cell_drew xT)
    have zq2 := hb2.size
    clear hb2
    go_wp2_with fail
    refine hK.out _ _ ?_ (fun hH1 => ?_)
    · (try dsimp only); exact ⟨xI, xS, xR, xT⟩
    clear hK K
    clear hH0
    try simp only [Act.put, List.setIfInBounds_toArray, List.set_cons_zero, List.set_cons_succ]
    refine wpAnyH_take (i := 3) (oi := { dst := some 79, op := Go.Op.binOp Go.BinOp.neq 3 (Go.Operand.tmp 76) (Go.Operand.tmp 78) 3, type := 4, pos := "law.go:182", after := #[{ on := 0, ground := Go.Ground.data }, { on := 2, ground := Go.Ground.data }], guard := none }) (v := ?_) rfl (by kernel_rfl) (by kernel_rfl) (by kernel_rfl) (fun _ _ _ h => h) (Or.inl ⟨by rfl, ?_⟩) (by assumption) ?_
    rotate_left
    · intro wq hSw; (try dsimp only at hSw); go_simp; (try with_reducible rfl)
    try simp only [Act.put, List.setIfInBounds_toArray, List.set_cons_zero, List.set_cons_succ]
    refine wpAnyH_take (i := 4) (oi := { dst := some 80, op := Go.Op.move (Go.Operand.tmp 79), type := 4, pos := "law.go:182", after := #[{ on := 3, ground := Go.Ground.data }, { on := 2, ground := Go.Ground.chain }], guard := none }) (v := ?_) rfl (by kernel_rfl) (by kernel_rfl) (by kernel_rfl) (fun _ _ _ h => h) (Or.inl ⟨by rfl, ?_⟩) (by assumption) ?_
    rotate_left
    · intro wq hSw; (try dsimp only at hSw); go_simp; (try with_reducible rfl)
    try simp only [Act.put, List.setIfInBounds_toArray, List.set_cons_zero, List.set_cons_succ]
    refine wpAnyH_take (i := 5) (oi := { dst := some 81, op := Go.Op.load 3 (Go.Operand.tmp 9), type := 3, pos := "law.go:182", after := #[{ on := 4, ground := Go.Ground.guard }], guard := some (4, true) }) (v := undef) rfl (by kernel_rfl) (by kernel_rfl) (by kernel_rfl) (fun _ _ _ h => h) (Or.inr ⟨by rfl, rfl⟩) (by assumption) ?_
    try simp only [Act.put, List.setIfInBounds_toArray, List.set_cons_zero, List.set_cons_succ]
    refine wpAnyH_take (i := 6) (oi := { dst := some 82, op := Go.Op.binOp Go.BinOp.eql 3 (Go.Operand.tmp 81) (Go.Operand.const (Go.Value.int Go.IntKind.i64 0)) 3, type := 4, pos := "law.go:182", after := #[{ on := 5, ground := Go.Ground.data }, { on := 4, ground := Go.Ground.guard }], guard := some (4, true) }) (v := undef) rfl (by kernel_rfl) (by kernel_rfl) (by kernel_rfl) (fun _ _ _ h => h) (Or.inr ⟨by rfl, rfl⟩) (by assumption) ?_
    try simp only [Act.put, List.setIfInBounds_toArray, List.set_cons_zero, List.set_cons_succ]
    refine wpAnyH_take (i := 7) (oi := { dst := some 83, op := Go.Op.move (Go.Operand.tmp 82), type := 4, pos := "law.go:182", after := #[{ on := 6, ground := Go.Ground.data }, { on := 4, ground := Go.Ground.chain }, { on := 4, ground := Go.Ground.guard }], guard := some (4, true) }) (v := undef) rfl (by kernel_rfl) (by kernel_rfl) (by kernel_rfl) (fun _ _ _ h => h) (Or.inr ⟨by rfl, rfl⟩) (by assumption) ?_
    try simp only [Act.put, List.setIfInBounds_toArray, List.set_cons_zero, List.set_cons_succ]
    refine wpAnyH_take (i := 8) (oi := { dst := some 84, op := Go.Op.load 3 (Go.Operand.tmp 10), type := 3, pos := "law.go:182", after := #[{ on := 7, ground := Go.Ground.guard }], guard := some (7, true) }) (v := undef) rfl (by kernel_rfl) (by kernel_rfl) (by kernel_rfl) (fun _ _ _ h => h) (Or.inr ⟨by rfl, rfl⟩) (by assumption) ?_
    try simp only [Act.put, List.setIfInBounds_toArray, List.set_cons_zero, List.set_cons_succ]
    refine wpAnyH_take (i := 9) (oi := { dst := some 85, op := Go.Op.load 3 (Go.Operand.tmp 3), type := 3, pos := "law.go:182", after := #[{ on := 7, ground := Go.Ground.guard }], guard := some (7, true) }) (v := undef) rfl (by kernel_rfl) (by kernel_rfl) (by kernel_rfl) (fun _ _ _ h => h) (Or.inr ⟨by rfl, rfl⟩) (by assumption) ?_
    try simp only [Act.put, List.setIfInBounds_toArray, List.set_cons_zero, List.set_cons_succ]
    refine wpAnyH_take (i := 10) (oi := { dst := some 86, op := Go.Op.binOp Go.BinOp.eql 3 (Go.Operand.tmp 84) (Go.Operand.tmp 85) 3, type := 4, pos := "law.go:182", after := #[{ on := 8, ground := Go.Ground.data }, { on := 9, ground := Go.Ground.data }, { on := 7, ground := Go.Ground.guard }], guard := some (7, true) }) (v := undef) rfl (by kernel_rfl) (by kernel_rfl) (by kernel_rfl) (fun _ _ _ h => h) (Or.inr ⟨by rfl, rfl⟩) (by assumption) ?_
    try simp only [Act.put, List.setIfInBounds_toArray, List.set_cons_zero, List.set_cons_succ]
    refine wpAnyH_take (i := 11) (oi := { dst := some 87, op := Go.Op.pick (Go.Operand.tmp 83) (Go.Operand.tmp 86) (Go.Operand.const (Go.Value.bool false)), type := 4, pos := "law.go:182", after := #[{ on := 7, ground := Go.Ground.data }, { on := 10, ground := Go.Ground.data }, { on := 4, ground := Go.Ground.guard }], guard := some (4, true) }) (v := undef) rfl (by kernel_rfl) (by kernel_rfl) (by kernel_rfl) (fun _ _ _ h => h) (Or.inr ⟨by rfl, rfl⟩) (by assumption) ?_
    try simp only [Act.put, List.setIfInBounds_toArray, List.set_cons_zero, List.set_cons_succ]
    refine wpAnyH_take (i := 12) (oi := { dst := some 88, op := Go.Op.unOp Go.UnOp.not 4 (Go.Operand.tmp 87), type := 4, pos := "law.go:182", after := #[{ on := 11, ground := Go.Ground.data }, { on := 4, ground := Go.Ground.guard }], guard := some (4, true) }) (v := undef) rfl (by kernel_rfl) (by kernel_rfl) (by kernel_rfl) (fun _ _ _ h => h) (Or.inr ⟨by rfl, rfl⟩) (by assumption) ?_
    try simp only [Act.put, List.setIfInBounds_toArray, List.set_cons_zero, List.set_cons_succ]
    refine wpAnyH_take (i := 13) (oi := { dst := some 89, op := Go.Op.pick (Go.Operand.tmp 80) (Go.Operand.tmp 88) (Go.Operand.const (Go.Value.bool false)), type := 4, pos := "law.go:182", after := #[{ on := 4, ground := Go.Ground.data }, { on := 12, ground := Go.Ground.data }], guard := none }) (v := ?_) rfl (by kernel_rfl) (by kernel_rfl) (by kernel_rfl) (fun _ _ _ h => h) (Or.inl ⟨by rfl, ?_⟩) (by assumption) ?_
    rotate_left
    · intro wq hSw; (try dsimp only at hSw); go_simp; (try with_reducible rfl)
    try simp only [Act.put, List.setIfInBounds_toArray, List.set_cons_zero, List.set_cons_succ]
    refine wpAnyH_done (by kernel_rfl) ?_ _
    refine onlyN_normal ?_
    clear xI xS xR xT
    have cRB := cellH RB8
    gi_wp2_with fail
    clear e6 IB8
    have RB9 : Hid ((wv.alloc (.cells #[.int .i64 1] 3)).heap[wv.heap.size]? = some (.cells #[.int .i64 1] 3 (0, 0))) := blk_new rfl
    have St6 := Lib.hid (blk_old (o := .cells #[.int .i64 1] 3) St8.out)
    have R6 := Lib.hid (blk_old (o := .cells #[.int .i64 1] 3) R8.out)
    have SB6 := Lib.hid (blk_old (o := .cells #[.int .i64 1] 3) SB8.out)
    have BX6 := Lib.hid (blk_old (o := .cells #[.int .i64 1] 3) BX8.out)
    have KD0 := Lib.hid (blk_old (o := .cells #[.int .i64 1] 3) HKD.out)

    have zw8 := hw8.size
    have zx8 := hx8.size
    have hw6 : Below w.heap.size w (wv.alloc (.cells #[.int .i64 1] 3)) := by (repeat' (first | with_reducible exact Below.refl _ _ | with_reducible assumption | with_reducible refine Below.drew ?_ | with_reducible refine below_drewN ?_ _ | with_reducible refine Below.setCell ?_ ?_ _ | with_reducible refine Below.alloc ?_ ?_ _ | omega | (simp; done) | (simp; omega)))
    have hx6 : Below w2.heap.size w2 (wv.alloc (.cells #[.int .i64 1] 3)) := by (repeat' (first | with_reducible exact Below.refl _ _ | with_reducible assumption | with_reducible refine Below.drew ?_ | with_reducible refine below_drewN ?_ _ | with_reducible refine Below.setCell ?_ ?_ _ | with_reducible refine Below.alloc ?_ ?_ _ | omega | (simp; done) | (simp; omega)))
    obtain ⟨rb9, hrb⟩ : ∃ rb, wv.heap.size = rb := ⟨_, rfl⟩
    clear St8 R8 SB8 BX8 RB8 HKD hw8 hx8 cRB St7 R7 SB7 BX7 RB7 IB7 AB7 hw7 hx7 HA7
    generalize (wv.alloc (.cells #[.int .i64 1] 3)) = w69 at *
    rw [hrb] at RB9 ⊢
    rw [hrb] at zw8 zx8 zq2
    clear hrb
    have cRB := cellH RB9
    have cS6 := cellH SB6

    rw [roundsIn_succ]
    gi_wp2_with fail
    have IB7 : Hid (((w69.alloc (.cells #[.int .i64 0] 3)).alloc (.cells #[.int .i64 0] 3)).heap[w69.heap.size]? = some (.cells #[.int .i64 0] 3 (0, 0))) := blk_old (blk_new rfl)
    have AB7 : Hid (((w69.alloc (.cells #[.int .i64 0] 3)).alloc (.cells #[.int .i64 0] 3)).heap[w69.heap.size + 1]? = some (.cells #[.int .i64 0] 3 (0, 0))) := blk_new (by simp)
    have St7 := Lib.hid (blk_old (o := .cells #[.int .i64 0] 3) (blk_old (o := .cells #[.int .i64 0] 3) St6.out))
    have R7 := Lib.hid (blk_old (o := .cells #[.int .i64 0] 3) (blk_old (o := .cells #[.int .i64 0] 3) R6.out))
    have SB7 := Lib.hid (blk_old (o := .cells #[.int .i64 0] 3) (blk_old (o := .cells #[.int .i64 0] 3) SB6.out))
    have BX7 := Lib.hid (blk_old (o := .cells #[.int .i64 0] 3) (blk_old (o := .cells #[.int .i64 0] 3) BX6.out))
    have RB7 := Lib.hid (blk_old (o := .cells #[.int .i64 0] 3) (blk_old (o := .cells #[.int .i64 0] 3) RB9.out))
    have KD07 := Lib.hid (blk_old (o := .cells #[.int .i64 0] 3) (blk_old (o := .cells #[.int .i64 0] 3) KD0.out))
    have lD0 : D0 < w69.heap.size := (Array.getElem?_eq_some_iff.1 KD0.out).1
    have zw6 := hw6.size
    have zx6 := hx6.size
    have hw7 : Below w.heap.size w ((w69.alloc (.cells #[.int .i64 0] 3)).alloc (.cells #[.int .i64 0] 3)) := by (repeat' (first | with_reducible exact Below.refl _ _ | with_reducible assumption | with_reducible refine Below.drew ?_ | with_reducible refine below_drewN ?_ _ | with_reducible refine Below.setCell ?_ ?_ _ | with_reducible refine Below.alloc ?_ ?_ _ | omega | (simp; done) | (simp; omega)))
    have hx7 : Below w2.heap.size w2 ((w69.alloc (.cells #[.int .i64 0] 3)).alloc (.cells #[.int .i64 0] 3)) := by (repeat' (first | with_reducible exact Below.refl _ _ | with_reducible assumption | with_reducible refine Below.drew ?_ | with_reducible refine below_drewN ?_ _ | with_reducible refine Below.setCell ?_ ?_ _ | with_reducible refine Below.alloc ?_ ?_ _ | omega | (simp; done) | (simp; omega)))
    have hu7 : w69.heap.size + 1 < ((w69.alloc (.cells #[.int .i64 0] 3)).alloc (.cells #[.int .i64 0] 3)).heap.size := by simp
    have l7St := lt_of_H St6
    have l7R := lt_of_H R6
    have l7S := lt_of_H SB6
    have l7B := lt_of_H BX6
    have l7RB := lt_of_H RB9
    obtain ⟨ib, hib⟩ : ∃ ib, w69.heap.size = ib := ⟨_, rfl⟩
    clear St6 R6 SB6 BX6 RB9 hw6 hx6 cRB cS6
    generalize ((w69.alloc (.cells #[.int .i64 0] 3)).alloc (.cells #[.int .i64 0] 3)) = w7 at *
    rw [hib] at IB7 AB7 hu7 l7St l7R l7S l7B l7RB zw6 zx6 lD0 ⊢
    clear hib
    have HA7 : RowAt encU 2 w7 ib A3 r := (HROW.out.below hx7 (Nat.le_refl _)).more zx6
    generalize ha : Act.mk _ _ = a0
    refine wpIn_rangeFunc_ownH rfl (by decide) (gf := 114) (lb := #[.pointer (some ⟨Bx, 0, none⟩)]) (by rw [← ha]; rfl) trivial (enters_of Tryd.func114 (by kernel_rfl) rfl)
      (days1_stops r A3 c3 (by omega) CS.out.valid (3 - 1) Bx ib l7B w7 (by omega) BX7 HA7)
      KeepC.trans (fun W l o o' hl h q1 q2 => keepC_b (m := ib) (h0 := w7.heap.size) (w := w7) (by omega) W l o o' hl h q1 q2) (Below.refl _ _) (fun x => rfl)
      (DeI r ib w7) (DeX r ib w7 (-1)) (DeI_own (by omega) (Nat.le_refl _)) (fun c => DeX_own c (by omega) (Nat.le_refl _)) ⟨IB7.out, AB7.out, Below.refl _ _, rfl⟩
      (fun x a' W => a' = { tmps := ((a0.tmps.setIfInBounds 45 (.int .i64 x)).setIfInBounds 12 (.int .i64 x)), defers := [] })
      (fun x a' s W W' row hs hg hr => hs) ?assign1 ?body1 ?done1 ?stop1
    case assign1 =>
      intro l9 pre x W K hI hK
      subst ha
      gi_wp2_with fail
      have h9 := hK _ _ (KeepsFrom.refl _ _) (KeepC.refl _ _ _) hI rfl
      simp only [List.setIfInBounds_toArray, List.set_cons_zero, List.set_cons_succ] at h9
      exact h9
    case body1 =>
      rintro l9 pre x a' wq hl9 ⟨rr, hrr⟩ ⟨i1, i4, i2, i3⟩ rfl hlt
      have zq := i2.size
      subst ha
      try simp only [List.setIfInBounds_toArray, List.set_cons_zero, List.set_cons_succ]
      have St8 : Hid (wq.heap[w.heap.size]? = some (.cells #[.int .i64 stop] 3 (0, 0))) := (i2.block _ l7St).trans St7.out
      have R8 : Hid (wq.heap[w.heap.size + 1]? = some (.cells #[.bool false] 4 (0, 0))) := (i2.block _ l7R).trans R7.out
      have SB8 : Hid (wq.heap[sb]? = some (.cells #[.slice A3 r.length c3] 77 (0, 0))) := (i2.block _ l7S).trans SB7.out
      have RB8 : Hid (wq.heap[rb9]? = some (.cells #[.int .i64 1] 3 (0, 0))) := (i2.block _ l7RB).trans RB7.out
      have IB8 : Hid (wq.heap[ib]? = some (.cells #[.int .i64 pre.length] 3 (0, 0))) := i1
      have AB8 : Hid (wq.heap[ib + 1]? = some (.cells #[.int .i64 (atO pre)] 3 (0, 0))) := i4
      have hx8 : Below w2.heap.size w2 wq := hx7.trans (i2.mono zx6)
      obtain ⟨y, hp⟩ : ∃ p, (daysL r)[pre.length]? = some p := ⟨_, List.getElem?_eq_getElem hlt⟩
      obtain ⟨hn1, hn2, hn3⟩ := next_day CS.out.rise i3 hp
      have HNX := Lib.hid hn1
      have HHB := Lib.hid hn2
      have HY9 : Hid (0 ≤ y ∧ y < 3652059) := ⟨hn3, by obtain ⟨q, hq, _, q2⟩ := hasB_iff.1 hn2; have := CS.out.upTo q hq; dsimp only [MD] at this; omega⟩
      have HP := Lib.hid hp
      have HI2 := Lib.hid i2
      have HI3 := Lib.hid i3
      have hlD : pre.length < DL := by rw [← HDL.out]; exact hlt
      clear hp i1 i2 i3 i4 hn1 hn2 hn3 hlt
      have HCL : Hid (∀ k ∈ [w.heap.size + 1], ∃ cs t z, wq.heap[k]? = some (.cells cs t z)) := by
        intro k hk
        simp only [List.mem_cons, List.not_mem_nil, or_false] at hk
        subst hk
        exact ⟨_, _, _, R8.out⟩
      have HCI : Hid (∀ k ∈ [ib, ib + 1], ∃ cs t z, wq.heap[k]? = some (.cells cs t z)) := by
        intro k hk
        simp only [List.mem_cons, List.not_mem_nil, or_false] at hk
        rcases hk with rfl | rfl
        · exact ⟨_, _, _, IB8.out⟩
        · exact ⟨_, _, _, AB8.out⟩
      have cS8 := cellH SB8
      have cA8 := cellH AB8
      gi_wp2_with fail
      first | refine round_open ?_ | refine round_open2 ?_ | refine round_open3 ?_ | refine round_open4 ?_
      refine (nextS_any r A3 c3 (atO pre) wq (moved HROW.out hx8) (by omega)).mono ?_
      rw [HNX.out]
      rintro e wv ⟨rfl, hb2⟩
      have hoI : OnlyL [ib, ib + 1] wq wv := OnlyL.step (OnlyL.refl _ _) hb2
      have hoW : OnlyL [w.heap.size + 1] wq wv := OnlyL.step (OnlyL.refl _ _) hb2
      have hx9 : Below w2.heap.size w2 wv := hx8.trans (hb2.mono hx8.size)
      have RB9 := keepH hb2 RB8.out
      have St9 := keepH hb2 St8.out
      have R9 := keepH hb2 R8.out
      have IB9 := keepH hb2 IB8.out
      have AB9 := keepH hb2 AB8.out
      have SB9 := keepH hb2 SB8.out
      have zw2 := hb2.size
      clear hb2 cS8 cA8
      dsimp only [nxV, Option.getD_some, Option.isSome_some]
      by_cases hxy : x = y
      · have e3 : (x != y) = false := by simp [hxy]
        have HXY := Lib.hid hxy
        have cS9 := cellH SB9
        clear hxy
        gi_wp2_with fail
        first | refine round_open ?_ | refine round_open2 ?_ | refine round_open3 ?_ | refine round_open4 ?_
        refine (hasS_any r A3 c3 x wv (moved HROW.out hx9) (by omega)).mono ?_
        rw [show hasB r x = true from by rw [HXY.out]; exact HHB.out]
        rintro e wu ⟨rfl, hb3⟩
        replace hoI : OnlyL [ib, ib + 1] wq wu := OnlyL.step hoI hb3
        have RB9 := keepH hb3 RB9.out
        have St9 := keepH hb3 St9.out
        have IB9 := keepH hb3 IB9.out
        have AB9 := keepH hb3 AB9.out
        have zw3 := hb3.size
        clear hb3 cS9 SB9 R9
        obtain ⟨wz, hwz⟩ : ∃ wz, (wu.setCell ⟨ib + 1, 0, none⟩ (.int .i64 (x + 1))).setCell ⟨ib, 0, none⟩ (.int .i64 ((pre.length : Int) + 1)) = wz := ⟨_, rfl⟩
        have hoZ : OnlyL [ib, ib + 1] wq wz := by rw [← hwz]; exact OnlyL.setCell (OnlyL.setCell hoI (.inl (by simp)) _) (.inl (by simp)) _
        have HLI : Hid (DeI r ib w7 (pre ++ [x]) wz) := by
          refine ⟨?_, ?_, HI2.out.trans (OnlyL.below hoZ (by omega) (fun k hk => by simp only [List.mem_cons, List.not_mem_nil, or_false] at hk; omega)), ?_⟩
          · rw [← hwz, show ((pre ++ [x]).length : Int) = (pre.length : Int) + 1 by simp]
            exact setBox (setOther IB9.out (by show ib ≠ ib + 1; omega)) _
          · rw [← hwz, atO_snoc]
            exact setOther (setBox AB9.out _) (by show ib + 1 ≠ ib; omega)
          · rw [List.length_append, List.length_singleton, HXY.out]
            exact take_day HI3.out HP.out
        have HKF := Lib.hid (OnlyL.from hoZ w7.heap.size HCI.out)
        have HKB : Hid (KeepC ib w7.heap.size wq wz) := KeepC.only hoZ (by omega) (fun k hk => by simp only [List.mem_cons, List.not_mem_nil, or_false] at hk; omega)
        have cI9 := cellH IB9
        have fI9 := frozH IB9
        have cA9 := cellH AB9
        have fA9 := frozH AB9
        have cB9 := cellH RB9
        have cT9 := cellH St9
        have cI10 := cellH (Lib.hid (setOther (p := ⟨ib + 1, 0, none⟩) (u := .int .i64 (x + 1)) IB9.out (by show ib ≠ ib + 1; omega)))
        have kw : IntKind.i64.wrap ((pre.length : Int) + 1) = (pre.length : Int) + 1 := by rw [IntKind.wrap_i64]; omega
        have kx : IntKind.i64.wrap (x + 1) = x + 1 := by rw [IntKind.wrap_i64]; have := HXY.out; have := HY9.out; omega
        have n1 : ib ≠ rb9 := by omega
        have n2 : ib ≠ w.heap.size := by omega
        have n3 : ib + 1 ≠ rb9 := by omega
        have n4 : ib + 1 ≠ w.heap.size := by omega
        have n5 : ib ≠ ib + 1 := by omega
        have lI9 := lt_of_H IB9
        have lA9 := lt_of_H AB9
        gi_upto_region 22 with fail

        have hwz2 := hwz.symm
        have RBz : Hid (wz.heap[rb9]? = some (.cells #[.int .i64 1] 3 (0, 0))) := by rw [hwz2]; exact setOther (setOther RB9.out (by show rb9 ≠ ib + 1; omega)) (by show rb9 ≠ ib; omega)
        have Stz : Hid (wz.heap[w.heap.size]? = some (.cells #[.int .i64 stop] 3 (0, 0))) := by rw [hwz2]; exact setOther (setOther St9.out (by show w.heap.size ≠ ib + 1; omega)) (by show w.heap.size ≠ ib; omega)
        have IBz : Hid (wz.heap[ib]? = some (.cells #[.int .i64 ((pre.length : Int) + 1)] 3 (0, 0))) := by rw [hwz2]; exact setBox (setOther IB9.out (by show ib ≠ ib + 1; omega)) _
        clear hwz hwz2 cI9 fI9 cA9 fA9 cB9 cT9 cI10 RB9 St9 IB9 AB9
        have cB9 := cellH RBz
        have cT9 := cellH Stz
        have cI9 := cellH IBz
        gi_wp2_with fail
        exact ⟨HKF.out, HKB.out, HLI.out⟩
      · have e3 : (x != y) = true := by simp [hxy]
        have HXY := Lib.hid hxy
        have cR9 := cellH R9
        have fR9 := frozH R9
        clear RB9 St9 IB9 AB9 SB9
        gi_wp2_with fail
        refine ⟨trivial, ?_⟩
        gi_wp2_with fail
        exact ⟨OnlyL.from (L := [w.heap.size + 1]) (OnlyL.setCell hoW (.inl (List.mem_singleton.2 rfl)) _) _ HCL.out, .inl (fun h => HXY.out (prefix_day h HP.out))⟩
    case done1 =>
      intro D1 xs W hD1 hxs hI hK
      rw [hxs] at hI
      obtain ⟨i1, i4, i2, i3⟩ := hI
      rw [HDL.out] at i1
      subst ha
      have zq := i2.size
      have St8 : Hid (W.heap[w.heap.size]? = some (.cells #[.int .i64 stop] 3 (0, 0))) := (i2.block _ l7St).trans St7.out
      have R8 : Hid (W.heap[w.heap.size + 1]? = some (.cells #[.bool false] 4 (0, 0))) := (i2.block _ l7R).trans R7.out
      have SB8 : Hid (W.heap[sb]? = some (.cells #[.slice A3 r.length c3] 77 (0, 0))) := (i2.block _ l7S).trans SB7.out
      have BX8 : Hid (W.heap[Bx]? = some (.cells #[.slice A3 r.length c3] 77 (0, 0))) := (i2.block _ l7B).trans BX7.out
      have RB8 : Hid (W.heap[rb9]? = some (.cells #[.int .i64 1] 3 (0, 0))) := (i2.block _ l7RB).trans RB7.out
      have HKD := Lib.hid hK
      have hw8 : Below w.heap.size w W := hw7.trans (i2.mono zw6)
      have hx8 : Below w2.heap.size w2 W := hx7.trans (i2.mono zx6)
      have KD08 := Lib.hid ((i2.block _ (by have := lD0; omega)).trans KD07.out)
      have IB8 : Hid (W.heap[ib]? = some (.cells #[.int .i64 DL] 3 (0, 0))) := i1
      have e6 : ((DL : Int) != (DL : Int)) = false := bne_self_eq_false _
      clear i1 i2 i3 i4 hK hxs
      have xI : W.cell? ⟨ib, 0, none⟩ = some (.int .i64 DL) := cellH IB8 0
      have xS : W.cell? ⟨sb, 0, none⟩ = some (.slice A3 r.length c3) := cellH SB8 0
      have xR : W.cell? ⟨rb9, 0, none⟩ = some (.int .i64 1) := cellH RB8 0
      have xT : W.cell? ⟨w.heap.size, 0, none⟩ = some (.int .i64 stop) := cellH St8 0
      gi_wp2_with fail
      refine (wpIn_wide (n := 3)).2 ?_
      refine wp_onlyN ?_
      refine wp_region_held_drew (S := fun w' => w'.cell? ⟨ib, 0, none⟩ = some (.int .i64 DL) ∧ w'.cell? ⟨sb, 0, none⟩ = some (.slice A3 r.length c3) ∧ w'.cell? ⟨rb9, 0, none⟩ = some (.int .i64 1) ∧ w'.cell? ⟨w.heap.size, 0, none⟩ = some (.int .i64 stop)) (by kernel_rfl) ?_ (fun hH0 => ?_)
      · exact ⟨xI, xS, xR, xT⟩
      refine wpAnyH_take (i := 0) (oi := { dst := some 76, op := Go.Op.load 3 (Go.Operand.tmp 10), type := 3, pos := "law.go:182", after := #[], guard := none }) (v := ?_) rfl (by kernel_rfl) (by kernel_rfl) (by kernel_rfl) (fun _ _ _ h => h) (Or.inl ⟨by rfl, ?_⟩) (by assumption) ?_
      rotate_left
      · intro wq hSw; (try dsimp only at hSw); go_simp; (try with_reducible rfl)
      try simp only [Act.put, List.setIfInBounds_toArray, List.set_cons_zero, List.set_cons_succ]
      refine wpAnyH_take (i := 1) (oi := { dst := some 77, op := Go.Op.load 77 (Go.Operand.tmp 6), type := 77, pos := "law.go:182", after := #[], guard := none }) (v := ?_) rfl (by kernel_rfl) (by kernel_rfl) (by kernel_rfl) (fun _ _ _ h => h) (Or.inl ⟨by rfl, ?_⟩) (by assumption) ?_
      rotate_left
      · intro wq hSw; (try dsimp only at hSw); go_simp; (try with_reducible rfl)
      try simp only [Act.put, List.setIfInBounds_toArray, List.set_cons_zero, List.set_cons_succ]
      refine wpAnyH_ready (rs := [2]) (by kernel_rfl) (by simp) ?_
      refine AllReadyH.cons (o := { dst := some 78, op := Go.Op.call { callee := Go.Callee.value (Go.Operand.func 60), args := #[Go.Operand.tmp 77], argTypes := #[77] }, type := 3, pos := "law.go:182", after := #[{ on := 1, ground := Go.Ground.data }], guard := none }) rfl (fun K hK => ?_) ?_
      rotate_left
      · exact AllReadyH.nil
      go_simp
      refine (lenS_any r A3 c3 _ (moved HROW.out hx8.drew) (by omega) CS.out).mono ?_
      rw [HLEN.out]
      rintro e wv ⟨rfl, hb2⟩
      replace hx8 : Below w2.heap.size w2 wv := stepH hx8.drew hb2
      replace hw8 : Below w.heap.size w wv := stepH hw8.drew hb2
      replace St8 := keepH hb2 (drew_old St8.out)
      replace R8 := keepH hb2 (drew_old R8.out)
      replace SB8 := keepH hb2 (drew_old SB8.out)
      replace BX8 := keepH hb2 (drew_old BX8.out)
      replace RB8 := keepH hb2 (drew_old RB8.out)
      replace HKD := keepH hb2 (drew_old HKD.out)
      replace KD08 := keepH hb2 (drew_old KD08.out)
      replace xI : wv.cell? ⟨ib, 0, none⟩ = some (.int .i64 DL) := cellOf hb2 (cell_drew xI)
      replace xS : wv.cell? ⟨sb, 0, none⟩ = some (.slice A3 r.length c3) := cellOf hb2 (cell_drew xS)
      replace xR : wv.cell? ⟨rb9, 0, none⟩ = some (.int .i64 1) := cellOf hb2 (cell_drew xR)
      replace xT : wv.cell? ⟨w.heap.size, 0, none⟩ = some (.int .i64 stop) := cellOf hb2 (cell_drew xT)
      have zq2 := hb2.size
      clear hb2
      go_wp2_with fail
      refine hK.out _ _ ?_ (fun hH1 => ?_)
      · (try dsimp only); exact ⟨xI, xS, xR, xT⟩
      clear hK K
      clear hH0
      try simp only [Act.put, List.setIfInBounds_toArray, List.set_cons_zero, List.set_cons_succ]
      refine wpAnyH_take (i := 3) (oi := { dst := some 79, op := Go.Op.binOp Go.BinOp.neq 3 (Go.Operand.tmp 76) (Go.Operand.tmp 78) 3, type := 4, pos := "law.go:182", after := #[{ on := 0, ground := Go.Ground.data }, { on := 2, ground := Go.Ground.data }], guard := none }) (v := ?_) rfl (by kernel_rfl) (by kernel_rfl) (by kernel_rfl) (fun _ _ _ h => h) (Or.inl ⟨by rfl, ?_⟩) (by assumption) ?_
      rotate_left
      · intro wq hSw; (try dsimp only at hSw); go_simp; (try with_reducible rfl)
      try simp only [Act.put, List.setIfInBounds_toArray, List.set_cons_zero, List.set_cons_succ]
      refine wpAnyH_take (i := 4) (oi := { dst := some 80, op := Go.Op.move (Go.Operand.tmp 79), type := 4, pos := "law.go:182", after := #[{ on := 3, ground := Go.Ground.data }, { on := 2, ground := Go.Ground.chain }], guard := none }) (v := ?_) rfl (by kernel_rfl) (by kernel_rfl) (by kernel_rfl) (fun _ _ _ h => h) (Or.inl ⟨by rfl, ?_⟩) (by assumption) ?_
      rotate_left
      · intro wq hSw; (try dsimp only at hSw); go_simp; (try with_reducible rfl)
      try simp only [Act.put, List.setIfInBounds_toArray, List.set_cons_zero, List.set_cons_succ]
      refine wpAnyH_take (i := 5) (oi := { dst := some 81, op := Go.Op.load 3 (Go.Operand.tmp 9), type := 3, pos := "law.go:182", after := #[{ on := 4, ground := Go.Ground.guard }], guard := some (4, true) }) (v := undef) rfl (by kernel_rfl) (by kernel_rfl) (by kernel_rfl) (fun _ _ _ h => h) (Or.inr ⟨by rfl, rfl⟩) (by assumption) ?_
      try simp only [Act.put, List.setIfInBounds_toArray, List.set_cons_zero, List.set_cons_succ]
      refine wpAnyH_take (i := 6) (oi := { dst := some 82, op := Go.Op.binOp Go.BinOp.eql 3 (Go.Operand.tmp 81) (Go.Operand.const (Go.Value.int Go.IntKind.i64 0)) 3, type := 4, pos := "law.go:182", after := #[{ on := 5, ground := Go.Ground.data }, { on := 4, ground := Go.Ground.guard }], guard := some (4, true) }) (v := undef) rfl (by kernel_rfl) (by kernel_rfl) (by kernel_rfl) (fun _ _ _ h => h) (Or.inr ⟨by rfl, rfl⟩) (by assumption) ?_
      try simp only [Act.put, List.setIfInBounds_toArray, List.set_cons_zero, List.set_cons_succ]
      refine wpAnyH_take (i := 7) (oi := { dst := some 83, op := Go.Op.move (Go.Operand.tmp 82), type := 4, pos := "law.go:182", after := #[{ on := 6, ground := Go.Ground.data }, { on := 4, ground := Go.Ground.chain }, { on := 4, ground := Go.Ground.guard }], guard := some (4, true) }) (v := undef) rfl (by kernel_rfl) (by kernel_rfl) (by kernel_rfl) (fun _ _ _ h => h) (Or.inr ⟨by rfl, rfl⟩) (by assumption) ?_
      try simp only [Act.put, List.setIfInBounds_toArray, List.set_cons_zero, List.set_cons_succ]
      refine wpAnyH_take (i := 8) (oi := { dst := some 84, op := Go.Op.load 3 (Go.Operand.tmp 10), type := 3, pos := "law.go:182", after := #[{ on := 7, ground := Go.Ground.guard }], guard := some (7, true) }) (v := undef) rfl (by kernel_rfl) (by kernel_rfl) (by kernel_rfl) (fun _ _ _ h => h) (Or.inr ⟨by rfl, rfl⟩) (by assumption) ?_
      try simp only [Act.put, List.setIfInBounds_toArray, List.set_cons_zero, List.set_cons_succ]
      refine wpAnyH_take (i := 9) (oi := { dst := some 85, op := Go.Op.load 3 (Go.Operand.tmp 3), type := 3, pos := "law.go:182", after := #[{ on := 7, ground := Go.Ground.guard }], guard := some (7, true) }) (v := undef) rfl (by kernel_rfl) (by kernel_rfl) (by kernel_rfl) (fun _ _ _ h => h) (Or.inr ⟨by rfl, rfl⟩) (by assumption) ?_
      try simp only [Act.put, List.setIfInBounds_toArray, List.set_cons_zero, List.set_cons_succ]
      refine wpAnyH_take (i := 10) (oi := { dst := some 86, op := Go.Op.binOp Go.BinOp.eql 3 (Go.Operand.tmp 84) (Go.Operand.tmp 85) 3, type := 4, pos := "law.go:182", after := #[{ on := 8, ground := Go.Ground.data }, { on := 9, ground := Go.Ground.data }, { on := 7, ground := Go.Ground.guard }], guard := some (7, true) }) (v := undef) rfl (by kernel_rfl) (by kernel_rfl) (by kernel_rfl) (fun _ _ _ h => h) (Or.inr ⟨by rfl, rfl⟩) (by assumption) ?_
      try simp only [Act.put, List.setIfInBounds_toArray, List.set_cons_zero, List.set_cons_succ]
      refine wpAnyH_take (i := 11) (oi := { dst := some 87, op := Go.Op.pick (Go.Operand.tmp 83) (Go.Operand.tmp 86) (Go.Operand.const (Go.Value.bool false)), type := 4, pos := "law.go:182", after := #[{ on := 7, ground := Go.Ground.data }, { on := 10, ground := Go.Ground.data }, { on := 4, ground := Go.Ground.guard }], guard := some (4, true) }) (v := undef) rfl (by kernel_rfl) (by kernel_rfl) (by kernel_rfl) (fun _ _ _ h => h) (Or.inr ⟨by rfl, rfl⟩) (by assumption) ?_
      try simp only [Act.put, List.setIfInBounds_toArray, List.set_cons_zero, List.set_cons_succ]
      refine wpAnyH_take (i := 12) (oi := { dst := some 88, op := Go.Op.unOp Go.UnOp.not 4 (Go.Operand.tmp 87), type := 4, pos := "law.go:182", after := #[{ on := 11, ground := Go.Ground.data }, { on := 4, ground := Go.Ground.guard }], guard := some (4, true) }) (v := undef) rfl (by kernel_rfl) (by kernel_rfl) (by kernel_rfl) (fun _ _ _ h => h) (Or.inr ⟨by rfl, rfl⟩) (by assumption) ?_
      try simp only [Act.put, List.setIfInBounds_toArray, List.set_cons_zero, List.set_cons_succ]
      refine wpAnyH_take (i := 13) (oi := { dst := some 89, op := Go.Op.pick (Go.Operand.tmp 80) (Go.Operand.tmp 88) (Go.Operand.const (Go.Value.bool false)), type := 4, pos := "law.go:182", after := #[{ on := 4, ground := Go.Ground.data }, { on := 12, ground := Go.Ground.data }], guard := none }) (v := ?_) rfl (by kernel_rfl) (by kernel_rfl) (by kernel_rfl) (fun _ _ _ h => h) (Or.inl ⟨by rfl, ?_⟩) (by assumption) ?_
      rotate_left
      · intro wq hSw; (try dsimp only at hSw); go_simp; (try with_reducible rfl)
      try simp only [Act.put, List.setIfInBounds_toArray, List.set_cons_zero, List.set_cons_succ]
      refine wpAnyH_done (by kernel_rfl) ?_ _
      refine onlyN_normal ?_
      clear xI xS xR xT
      have cRB := cellH RB8
      gi_wp2_with fail
      clear e6 IB8
      have RB9 : Hid ((wv.alloc (.cells #[.int .i64 2] 3)).heap[wv.heap.size]? = some (.cells #[.int .i64 2] 3 (0, 0))) := blk_new rfl
      have St6 := Lib.hid (blk_old (o := .cells #[.int .i64 2] 3) St8.out)
      have R6 := Lib.hid (blk_old (o := .cells #[.int .i64 2] 3) R8.out)
      have SB6 := Lib.hid (blk_old (o := .cells #[.int .i64 2] 3) SB8.out)
      have BX6 := Lib.hid (blk_old (o := .cells #[.int .i64 2] 3) BX8.out)
      have KD1 := Lib.hid (blk_old (o := .cells #[.int .i64 2] 3) HKD.out)
      have KD0b := Lib.hid (blk_old (o := .cells #[.int .i64 2] 3) KD08.out)
      have zw8 := hw8.size
      have zx8 := hx8.size
      have hw6 : Below w.heap.size w (wv.alloc (.cells #[.int .i64 2] 3)) := by (repeat' (first | with_reducible exact Below.refl _ _ | with_reducible assumption | with_reducible refine Below.drew ?_ | with_reducible refine below_drewN ?_ _ | with_reducible refine Below.setCell ?_ ?_ _ | with_reducible refine Below.alloc ?_ ?_ _ | omega | (simp; done) | (simp; omega)))
      have hx6 : Below w2.heap.size w2 (wv.alloc (.cells #[.int .i64 2] 3)) := by (repeat' (first | with_reducible exact Below.refl _ _ | with_reducible assumption | with_reducible refine Below.drew ?_ | with_reducible refine below_drewN ?_ _ | with_reducible refine Below.setCell ?_ ?_ _ | with_reducible refine Below.alloc ?_ ?_ _ | omega | (simp; done) | (simp; omega)))
      obtain ⟨rb9, hrb⟩ : ∃ rb9, wv.heap.size = rb9 := ⟨_, rfl⟩
      clear St8 R8 SB8 BX8 RB8 HKD hw8 hx8 cRB St7 R7 SB7 BX7 RB7 IB7 AB7 hw7 hx7 HA7
      generalize (wv.alloc (.cells #[.int .i64 2] 3)) = w69 at *
      rw [hrb] at RB9 ⊢
      rw [hrb] at zw8 zx8 zq2
      clear hrb
      have cRB := cellH RB9
      have cS6 := cellH SB6
      have cR := cellH R6
      have fzR := frozH R6
      rw [roundsIn_succ]
      gi_wp2_with fail

      have k1 : (w69.setCell ⟨w.heap.size + 1, 0, none⟩ (.bool true)).heap[D1]? = some (.deferred (some [])) := (KeepsOthers.setCell _ _ _).same D1 _ KD1.out rfl
      have k0 : ((w69.setCell ⟨w.heap.size + 1, 0, none⟩ (.bool true)).putObj D1 (.deferred none)).heap[D0]? = some (.deferred (some [])) := (World.putObj_heap_other (by omega)).trans ((KeepsOthers.setCell _ _ _).same D0 _ KD0b.out rfl)
      have HR : Hid ((((w69.setCell ⟨w.heap.size + 1, 0, none⟩ (.bool true)).putObj D1 (.deferred none)).putObj D0 (.deferred none)).heap[w.heap.size + 1]? = some (.cells #[.bool true] 4 (0, 0))) := (World.putObj_heap_other (by omega)).trans ((World.putObj_heap_other (by omega)).trans (setBox R6.out _))
      have hB : Below w.heap.size w (((w69.setCell ⟨w.heap.size + 1, 0, none⟩ (.bool true)).putObj D1 (.deferred none)).putObj D0 (.deferred none)) := Below.trans (Below.trans (hw6.setCell (by simp) _) (belowK_b (w := w) (Nat.le_refl _) _ D1 _ _ (by omega) k1 rfl rfl)) (belowK_b (w := w) (Nat.le_refl _) _ D0 _ _ (by omega) k0 rfl rfl)
      refine ⟨by simp, .inl ⟨_, _, rfl, run_takeDeferred k1, ⟨by simp, .inl ⟨_, _, rfl, run_takeDeferred k0, ?_⟩⟩⟩⟩
      clear k1 k0
      generalize (((w69.setCell ⟨w.heap.size + 1, 0, none⟩ (.bool true)).putObj D1 (.deferred none)).putObj D0 (.deferred none)) = wz at HR hB ⊢
      have c4 := cellH HR
      exact ⟨_, (by simp [results, Tryd.results9, go_sem, c4]), rfl, hB⟩

    case stop1 =>
      rintro D1 c pre W hD hpre hX hK
      rcases hX with h | ⟨h1, _, _⟩
      · exact absurd hpre h
      · omega

  case stop =>
    rintro D0 c pre W hD0 hpre hX hK
    rcases hX with h | ⟨hst, rfl, i1, i4, i2, i3⟩
    · exact absurd hpre h
    · subst ha
      have zq := i2.size
      have St8 : Hid (W.heap[w.heap.size]? = some (.cells #[.int .i64 stop] 3 (0, 0))) := (i2.block _ l7St).trans St7.out
      have R8 : Hid (W.heap[w.heap.size + 1]? = some (.cells #[.bool false] 4 (0, 0))) := (i2.block _ l7R).trans R7.out
      have SB8 : Hid (W.heap[sb]? = some (.cells #[.slice A3 r.length c3] 77 (0, 0))) := (i2.block _ l7S).trans SB7.out
      have BX8 : Hid (W.heap[Bx]? = some (.cells #[.slice A3 r.length c3] 77 (0, 0))) := (i2.block _ l7B).trans BX7.out
      have RB8 : Hid (W.heap[rb]? = some (.cells #[.int .i64 0] 3 (0, 0))) := (i2.block _ l7RB).trans RB7.out
      have HKD := Lib.hid hK
      have hw8 : Below w.heap.size w W := hw7.trans (i2.mono zw6)
      have hx8 : Below w2.heap.size w2 W := hx7.trans (i2.mono zx6)
      have IB8 : Hid (W.heap[ib]? = some (.cells #[.int .i64 pre.length] 3 (0, 0))) := i1
      clear i1 i2 i3 i4 hK hpre
      by_cases hpl : pre.length = DL
      · rw [hpl] at IB8
        have e6 : ((DL : Int) != (DL : Int)) = false := bne_self_eq_false _
        clear hst hpl
        have xI : W.cell? ⟨ib, 0, none⟩ = some (.int .i64 DL) := cellH IB8 0
        have xS : W.cell? ⟨sb, 0, none⟩ = some (.slice A3 r.length c3) := cellH SB8 0
        have xR : W.cell? ⟨rb, 0, none⟩ = some (.int .i64 0) := cellH RB8 0
        have xT : W.cell? ⟨w.heap.size, 0, none⟩ = some (.int .i64 stop) := cellH St8 0
        gi_wp2_with fail
        refine (wpIn_wide (n := 3)).2 ?_
        refine wp_onlyN ?_
        refine wp_region_held_drew (S := fun w' => w'.cell? ⟨ib, 0, none⟩ = some (.int .i64 DL) ∧ w'.cell? ⟨sb, 0, none⟩ = some (.slice A3 r.length c3) ∧ w'.cell? ⟨rb, 0, none⟩ = some (.int .i64 0) ∧ w'.cell? ⟨w.heap.size, 0, none⟩ = some (.int .i64 stop)) (by kernel_rfl) ?_ (fun hH0 => ?_)
        · exact ⟨xI, xS, xR, xT⟩
        refine wpAnyH_take (i := 0) (oi := { dst := some 76, op := Go.Op.load 3 (Go.Operand.tmp 10), type := 3, pos := "law.go:182", after := #[], guard := none }) (v := ?_) rfl (by kernel_rfl) (by kernel_rfl) (by kernel_rfl) (fun _ _ _ h => h) (Or.inl ⟨by rfl, ?_⟩) (by assumption) ?_
        rotate_left
        · intro wq hSw; (try dsimp only at hSw); go_simp; (try with_reducible rfl)
        try simp only [Act.put, List.setIfInBounds_toArray, List.set_cons_zero, List.set_cons_succ]
        refine wpAnyH_take (i := 1) (oi := { dst := some 77, op := Go.Op.load 77 (Go.Operand.tmp 6), type := 77, pos := "law.go:182", after := #[], guard := none }) (v := ?_) rfl (by kernel_rfl) (by kernel_rfl) (by kernel_rfl) (fun _ _ _ h => h) (Or.inl ⟨by rfl, ?_⟩) (by assumption) ?_
        rotate_left
        · intro wq hSw; (try dsimp only at hSw); go_simp; (try with_reducible rfl)
        try simp only [Act.put, List.setIfInBounds_toArray, List.set_cons_zero, List.set_cons_succ]
        refine wpAnyH_ready (rs := [2]) (by kernel_rfl) (by simp) ?_
        refine AllReadyH.cons (o := { dst := some 78, op := Go.Op.call { callee := Go.Callee.value (Go.Operand.func 60), args := #[Go.Operand.tmp 77], argTypes := #[77] }, type := 3, pos := "law.go:182", after := #[{ on := 1, ground := Go.Ground.data }], guard := none }) rfl (fun K hK => ?_) ?_
        rotate_left
        · exact AllReadyH.nil
        go_simp
        refine (lenS_any r A3 c3 _ (moved HROW.out hx8.drew) (by omega) CS.out).mono ?_
        rw [HLEN.out]
        rintro e wv ⟨rfl, hb2⟩
        replace hx8 : Below w2.heap.size w2 wv := stepH hx8.drew hb2
        replace hw8 : Below w.heap.size w wv := stepH hw8.drew hb2
        replace St8 := keepH hb2 (drew_old St8.out)
        replace R8 := keepH hb2 (drew_old R8.out)
        replace SB8 := keepH hb2 (drew_old SB8.out)
        replace BX8 := keepH hb2 (drew_old BX8.out)
        replace RB8 := keepH hb2 (drew_old RB8.out)
        replace HKD := keepH hb2 (drew_old HKD.out)
        replace xI : wv.cell? ⟨ib, 0, none⟩ = some (.int .i64 DL) := cellOf hb2 (cell_drew xI)
        replace xS : wv.cell? ⟨sb, 0, none⟩ = some (.slice A3 r.length c3) := cellOf hb2 (cell_drew xS)
        replace xR : wv.cell? ⟨rb, 0, none⟩ = some (.int .i64 0) := cellOf hb2 (cell_drew xR)
        replace xT : wv.cell? ⟨w.heap.size, 0, none⟩ = some (.int .i64 stop) := cellOf hb2 (cell_drew xT)
        have zq2 := hb2.size
        clear hb2
        go_wp2_with fail
        refine hK.out _ _ ?_ (fun hH1 => ?_)
        · (try dsimp only); exact ⟨xI, xS, xR, xT⟩
        clear hK K
        clear hH0
        try simp only [Act.put, List.setIfInBounds_toArray, List.set_cons_zero, List.set_cons_succ]
        refine wpAnyH_take (i := 3) (oi := { dst := some 79, op := Go.Op.binOp Go.BinOp.neq 3 (Go.Operand.tmp 76) (Go.Operand.tmp 78) 3, type := 4, pos := "law.go:182", after := #[{ on := 0, ground := Go.Ground.data }, { on := 2, ground := Go.Ground.data }], guard := none }) (v := ?_) rfl (by kernel_rfl) (by kernel_rfl) (by kernel_rfl) (fun _ _ _ h => h) (Or.inl ⟨by rfl, ?_⟩) (by assumption) ?_
        rotate_left
        · intro wq hSw; (try dsimp only at hSw); go_simp; (try with_reducible rfl)
        try simp only [Act.put, List.setIfInBounds_toArray, List.set_cons_zero, List.set_cons_succ]
        refine wpAnyH_take (i := 4) (oi := { dst := some 80, op := Go.Op.move (Go.Operand.tmp 79), type := 4, pos := "law.go:182", after := #[{ on := 3, ground := Go.Ground.data }, { on := 2, ground := Go.Ground.chain }], guard := none }) (v := ?_) rfl (by kernel_rfl) (by kernel_rfl) (by kernel_rfl) (fun _ _ _ h => h) (Or.inl ⟨by rfl, ?_⟩) (by assumption) ?_
        rotate_left
        · intro wq hSw; (try dsimp only at hSw); go_simp; (try with_reducible rfl)
        try simp only [Act.put, List.setIfInBounds_toArray, List.set_cons_zero, List.set_cons_succ]
        refine wpAnyH_take (i := 5) (oi := { dst := some 81, op := Go.Op.load 3 (Go.Operand.tmp 9), type := 3, pos := "law.go:182", after := #[{ on := 4, ground := Go.Ground.guard }], guard := some (4, true) }) (v := undef) rfl (by kernel_rfl) (by kernel_rfl) (by kernel_rfl) (fun _ _ _ h => h) (Or.inr ⟨by rfl, rfl⟩) (by assumption) ?_
        try simp only [Act.put, List.setIfInBounds_toArray, List.set_cons_zero, List.set_cons_succ]
        refine wpAnyH_take (i := 6) (oi := { dst := some 82, op := Go.Op.binOp Go.BinOp.eql 3 (Go.Operand.tmp 81) (Go.Operand.const (Go.Value.int Go.IntKind.i64 0)) 3, type := 4, pos := "law.go:182", after := #[{ on := 5, ground := Go.Ground.data }, { on := 4, ground := Go.Ground.guard }], guard := some (4, true) }) (v := undef) rfl (by kernel_rfl) (by kernel_rfl) (by kernel_rfl) (fun _ _ _ h => h) (Or.inr ⟨by rfl, rfl⟩) (by assumption) ?_
        try simp only [Act.put, List.setIfInBounds_toArray, List.set_cons_zero, List.set_cons_succ]
        refine wpAnyH_take (i := 7) (oi := { dst := some 83, op := Go.Op.move (Go.Operand.tmp 82), type := 4, pos := "law.go:182", after := #[{ on := 6, ground := Go.Ground.data }, { on := 4, ground := Go.Ground.chain }, { on := 4, ground := Go.Ground.guard }], guard := some (4, true) }) (v := undef) rfl (by kernel_rfl) (by kernel_rfl) (by kernel_rfl) (fun _ _ _ h => h) (Or.inr ⟨by rfl, rfl⟩) (by assumption) ?_
        try simp only [Act.put, List.setIfInBounds_toArray, List.set_cons_zero, List.set_cons_succ]
        refine wpAnyH_take (i := 8) (oi := { dst := some 84, op := Go.Op.load 3 (Go.Operand.tmp 10), type := 3, pos := "law.go:182", after := #[{ on := 7, ground := Go.Ground.guard }], guard := some (7, true) }) (v := undef) rfl (by kernel_rfl) (by kernel_rfl) (by kernel_rfl) (fun _ _ _ h => h) (Or.inr ⟨by rfl, rfl⟩) (by assumption) ?_
        try simp only [Act.put, List.setIfInBounds_toArray, List.set_cons_zero, List.set_cons_succ]
        refine wpAnyH_take (i := 9) (oi := { dst := some 85, op := Go.Op.load 3 (Go.Operand.tmp 3), type := 3, pos := "law.go:182", after := #[{ on := 7, ground := Go.Ground.guard }], guard := some (7, true) }) (v := undef) rfl (by kernel_rfl) (by kernel_rfl) (by kernel_rfl) (fun _ _ _ h => h) (Or.inr ⟨by rfl, rfl⟩) (by assumption) ?_
        try simp only [Act.put, List.setIfInBounds_toArray, List.set_cons_zero, List.set_cons_succ]
        refine wpAnyH_take (i := 10) (oi := { dst := some 86, op := Go.Op.binOp Go.BinOp.eql 3 (Go.Operand.tmp 84) (Go.Operand.tmp 85) 3, type := 4, pos := "law.go:182", after := #[{ on := 8, ground := Go.Ground.data }, { on := 9, ground := Go.Ground.data }, { on := 7, ground := Go.Ground.guard }], guard := some (7, true) }) (v := undef) rfl (by kernel_rfl) (by kernel_rfl) (by kernel_rfl) (fun _ _ _ h => h) (Or.inr ⟨by rfl, rfl⟩) (by assumption) ?_
        try simp only [Act.put, List.setIfInBounds_toArray, List.set_cons_zero, List.set_cons_succ]
        refine wpAnyH_take (i := 11) (oi := { dst := some 87, op := Go.Op.pick (Go.Operand.tmp 83) (Go.Operand.tmp 86) (Go.Operand.const (Go.Value.bool false)), type := 4, pos := "law.go:182", after := #[{ on := 7, ground := Go.Ground.data }, { on := 10, ground := Go.Ground.data }, { on := 4, ground := Go.Ground.guard }], guard := some (4, true) }) (v := undef) rfl (by kernel_rfl) (by kernel_rfl) (by kernel_rfl) (fun _ _ _ h => h) (Or.inr ⟨by rfl, rfl⟩) (by assumption) ?_
        try simp only [Act.put, List.setIfInBounds_toArray, List.set_cons_zero, List.set_cons_succ]
        refine wpAnyH_take (i := 12) (oi := { dst := some 88, op := Go.Op.unOp Go.UnOp.not 4 (Go.Operand.tmp 87), type := 4, pos := "law.go:182", after := #[{ on := 11, ground := Go.Ground.data }, { on := 4, ground := Go.Ground.guard }], guard := some (4, true) }) (v := undef) rfl (by kernel_rfl) (by kernel_rfl) (by kernel_rfl) (fun _ _ _ h => h) (Or.inr ⟨by rfl, rfl⟩) (by assumption) ?_
        try simp only [Act.put, List.setIfInBounds_toArray, List.set_cons_zero, List.set_cons_succ]
        refine wpAnyH_take (i := 13) (oi := { dst := some 89, op := Go.Op.pick (Go.Operand.tmp 80) (Go.Operand.tmp 88) (Go.Operand.const (Go.Value.bool false)), type := 4, pos := "law.go:182", after := #[{ on := 4, ground := Go.Ground.data }, { on := 12, ground := Go.Ground.data }], guard := none }) (v := ?_) rfl (by kernel_rfl) (by kernel_rfl) (by kernel_rfl) (fun _ _ _ h => h) (Or.inl ⟨by rfl, ?_⟩) (by assumption) ?_
        rotate_left
        · intro wq hSw; (try dsimp only at hSw); go_simp; (try with_reducible rfl)
        try simp only [Act.put, List.setIfInBounds_toArray, List.set_cons_zero, List.set_cons_succ]
        refine wpAnyH_done (by kernel_rfl) ?_ _
        refine onlyN_normal ?_
        clear xI xS xR xT
        have cRB := cellH RB8
        gi_wp2_with fail
        clear e6 IB8
        have RB9 : Hid ((wv.alloc (.cells #[.int .i64 1] 3)).heap[wv.heap.size]? = some (.cells #[.int .i64 1] 3 (0, 0))) := blk_new rfl
        have St6 := Lib.hid (blk_old (o := .cells #[.int .i64 1] 3) St8.out)
        have R6 := Lib.hid (blk_old (o := .cells #[.int .i64 1] 3) R8.out)
        have SB6 := Lib.hid (blk_old (o := .cells #[.int .i64 1] 3) SB8.out)
        have BX6 := Lib.hid (blk_old (o := .cells #[.int .i64 1] 3) BX8.out)
        have KD0 := Lib.hid (blk_old (o := .cells #[.int .i64 1] 3) HKD.out)

        have zw8 := hw8.size
        have zx8 := hx8.size
        have hw6 : Below w.heap.size w (wv.alloc (.cells #[.int .i64 1] 3)) := by (repeat' (first | with_reducible exact Below.refl _ _ | with_reducible assumption | with_reducible refine Below.drew ?_ | with_reducible refine below_drewN ?_ _ | with_reducible refine Below.setCell ?_ ?_ _ | with_reducible refine Below.alloc ?_ ?_ _ | omega | (simp; done) | (simp; omega)))
        have hx6 : Below w2.heap.size w2 (wv.alloc (.cells #[.int .i64 1] 3)) := by (repeat' (first | with_reducible exact Below.refl _ _ | with_reducible assumption | with_reducible refine Below.drew ?_ | with_reducible refine below_drewN ?_ _ | with_reducible refine Below.setCell ?_ ?_ _ | with_reducible refine Below.alloc ?_ ?_ _ | omega | (simp; done) | (simp; omega)))
        obtain ⟨rb9, hrb⟩ : ∃ rb, wv.heap.size = rb := ⟨_, rfl⟩
        clear St8 R8 SB8 BX8 RB8 HKD hw8 hx8 cRB St7 R7 SB7 BX7 RB7 IB7 AB7 hw7 hx7 HA7
        generalize (wv.alloc (.cells #[.int .i64 1] 3)) = w69 at *
        rw [hrb] at RB9 ⊢
        rw [hrb] at zw8 zx8 zq2
        clear hrb
        have cRB := cellH RB9
        have cS6 := cellH SB6

        rw [roundsIn_succ]
        gi_wp2_with fail
        have IB7 : Hid (((w69.alloc (.cells #[.int .i64 0] 3)).alloc (.cells #[.int .i64 0] 3)).heap[w69.heap.size]? = some (.cells #[.int .i64 0] 3 (0, 0))) := blk_old (blk_new rfl)
        have AB7 : Hid (((w69.alloc (.cells #[.int .i64 0] 3)).alloc (.cells #[.int .i64 0] 3)).heap[w69.heap.size + 1]? = some (.cells #[.int .i64 0] 3 (0, 0))) := blk_new (by simp)
        have St7 := Lib.hid (blk_old (o := .cells #[.int .i64 0] 3) (blk_old (o := .cells #[.int .i64 0] 3) St6.out))
        have R7 := Lib.hid (blk_old (o := .cells #[.int .i64 0] 3) (blk_old (o := .cells #[.int .i64 0] 3) R6.out))
        have SB7 := Lib.hid (blk_old (o := .cells #[.int .i64 0] 3) (blk_old (o := .cells #[.int .i64 0] 3) SB6.out))
        have BX7 := Lib.hid (blk_old (o := .cells #[.int .i64 0] 3) (blk_old (o := .cells #[.int .i64 0] 3) BX6.out))
        have RB7 := Lib.hid (blk_old (o := .cells #[.int .i64 0] 3) (blk_old (o := .cells #[.int .i64 0] 3) RB9.out))
        have KD07 := Lib.hid (blk_old (o := .cells #[.int .i64 0] 3) (blk_old (o := .cells #[.int .i64 0] 3) KD0.out))
        have lD0 : D0 < w69.heap.size := (Array.getElem?_eq_some_iff.1 KD0.out).1
        have zw6 := hw6.size
        have zx6 := hx6.size
        have hw7 : Below w.heap.size w ((w69.alloc (.cells #[.int .i64 0] 3)).alloc (.cells #[.int .i64 0] 3)) := by (repeat' (first | with_reducible exact Below.refl _ _ | with_reducible assumption | with_reducible refine Below.drew ?_ | with_reducible refine below_drewN ?_ _ | with_reducible refine Below.setCell ?_ ?_ _ | with_reducible refine Below.alloc ?_ ?_ _ | omega | (simp; done) | (simp; omega)))
        have hx7 : Below w2.heap.size w2 ((w69.alloc (.cells #[.int .i64 0] 3)).alloc (.cells #[.int .i64 0] 3)) := by (repeat' (first | with_reducible exact Below.refl _ _ | with_reducible assumption | with_reducible refine Below.drew ?_ | with_reducible refine below_drewN ?_ _ | with_reducible refine Below.setCell ?_ ?_ _ | with_reducible refine Below.alloc ?_ ?_ _ | omega | (simp; done) | (simp; omega)))
        have hu7 : w69.heap.size + 1 < ((w69.alloc (.cells #[.int .i64 0] 3)).alloc (.cells #[.int .i64 0] 3)).heap.size := by simp
        have l7St := lt_of_H St6
        have l7R := lt_of_H R6
        have l7S := lt_of_H SB6
        have l7B := lt_of_H BX6
        have l7RB := lt_of_H RB9
        obtain ⟨ib, hib⟩ : ∃ ib, w69.heap.size = ib := ⟨_, rfl⟩
        clear St6 R6 SB6 BX6 RB9 hw6 hx6 cRB cS6
        generalize ((w69.alloc (.cells #[.int .i64 0] 3)).alloc (.cells #[.int .i64 0] 3)) = w7 at *
        rw [hib] at IB7 AB7 hu7 l7St l7R l7S l7B l7RB zw6 zx6 lD0 ⊢
        clear hib
        have HA7 : RowAt encU 2 w7 ib A3 r := (HROW.out.below hx7 (Nat.le_refl _)).more zx6
        generalize ha : Act.mk _ _ = a0
        refine wpIn_rangeFunc_ownH rfl (by decide) (gf := 114) (lb := #[.pointer (some ⟨Bx, 0, none⟩)]) (by rw [← ha]; rfl) trivial (enters_of Tryd.func114 (by kernel_rfl) rfl)
          (days1_stops r A3 c3 (by omega) CS.out.valid (3 - 1) Bx ib l7B w7 (by omega) BX7 HA7)
          KeepC.trans (fun W l o o' hl h q1 q2 => keepC_b (m := ib) (h0 := w7.heap.size) (w := w7) (by omega) W l o o' hl h q1 q2) (Below.refl _ _) (fun x => rfl)
          (DeI r ib w7) (DeX r ib w7 (-1)) (DeI_own (by omega) (Nat.le_refl _)) (fun c => DeX_own c (by omega) (Nat.le_refl _)) ⟨IB7.out, AB7.out, Below.refl _ _, rfl⟩
          (fun x a' W => a' = { tmps := ((a0.tmps.setIfInBounds 45 (.int .i64 x)).setIfInBounds 12 (.int .i64 x)), defers := [] })
          (fun x a' s W W' row hs hg hr => hs) ?assign1 ?body1 ?done1 ?stop1
        case assign1 =>
          intro l9 pre x W K hI hK
          subst ha
          gi_wp2_with fail
          have h9 := hK _ _ (KeepsFrom.refl _ _) (KeepC.refl _ _ _) hI rfl
          simp only [List.setIfInBounds_toArray, List.set_cons_zero, List.set_cons_succ] at h9
          exact h9
        case body1 =>
          rintro l9 pre x a' wq hl9 ⟨rr, hrr⟩ ⟨i1, i4, i2, i3⟩ rfl hlt
          have zq := i2.size
          subst ha
          try simp only [List.setIfInBounds_toArray, List.set_cons_zero, List.set_cons_succ]
          have St8 : Hid (wq.heap[w.heap.size]? = some (.cells #[.int .i64 stop] 3 (0, 0))) := (i2.block _ l7St).trans St7.out
          have R8 : Hid (wq.heap[w.heap.size + 1]? = some (.cells #[.bool false] 4 (0, 0))) := (i2.block _ l7R).trans R7.out
          have SB8 : Hid (wq.heap[sb]? = some (.cells #[.slice A3 r.length c3] 77 (0, 0))) := (i2.block _ l7S).trans SB7.out
          have RB8 : Hid (wq.heap[rb9]? = some (.cells #[.int .i64 1] 3 (0, 0))) := (i2.block _ l7RB).trans RB7.out
          have IB8 : Hid (wq.heap[ib]? = some (.cells #[.int .i64 pre.length] 3 (0, 0))) := i1
          have AB8 : Hid (wq.heap[ib + 1]? = some (.cells #[.int .i64 (atO pre)] 3 (0, 0))) := i4
          have hx8 : Below w2.heap.size w2 wq := hx7.trans (i2.mono zx6)
          obtain ⟨y, hp⟩ : ∃ p, (daysL r)[pre.length]? = some p := ⟨_, List.getElem?_eq_getElem hlt⟩
          obtain ⟨hn1, hn2, hn3⟩ := next_day CS.out.rise i3 hp
          have HNX := Lib.hid hn1
          have HHB := Lib.hid hn2
          have HY9 : Hid (0 ≤ y ∧ y < 3652059) := ⟨hn3, by obtain ⟨q, hq, _, q2⟩ := hasB_iff.1 hn2; have := CS.out.upTo q hq; dsimp only [MD] at this; omega⟩
          have HP := Lib.hid hp
          have HI2 := Lib.hid i2
          have HI3 := Lib.hid i3
          have hlD : pre.length < DL := by rw [← HDL.out]; exact hlt
          clear hp i1 i2 i3 i4 hn1 hn2 hn3 hlt
          have HCL : Hid (∀ k ∈ [w.heap.size + 1], ∃ cs t z, wq.heap[k]? = some (.cells cs t z)) := by
            intro k hk
            simp only [List.mem_cons, List.not_mem_nil, or_false] at hk
            subst hk
            exact ⟨_, _, _, R8.out⟩
          have HCI : Hid (∀ k ∈ [ib, ib + 1], ∃ cs t z, wq.heap[k]? = some (.cells cs t z)) := by
            intro k hk
            simp only [List.mem_cons, List.not_mem_nil, or_false] at hk
            rcases hk with rfl | rfl
            · exact ⟨_, _, _, IB8.out⟩
            · exact ⟨_, _, _, AB8.out⟩
          have cS8 := cellH SB8
          have cA8 := cellH AB8
          gi_wp2_with fail
          first | refine round_open ?_ | refine round_open2 ?_ | refine round_open3 ?_ | refine round_open4 ?_
          refine (nextS_any r A3 c3 (atO pre) wq (moved HROW.out hx8) (by omega)).mono ?_
          rw [HNX.out]
          rintro e wv ⟨rfl, hb2⟩
          have hoI : OnlyL [ib, ib + 1] wq wv := OnlyL.step (OnlyL.refl _ _) hb2
          have hoW : OnlyL [w.heap.size + 1] wq wv := OnlyL.step (OnlyL.refl _ _) hb2
          have hx9 : Below w2.heap.size w2 wv := hx8.trans (hb2.mono hx8.size)
          have RB9 := keepH hb2 RB8.out
          have St9 := keepH hb2 St8.out
          have R9 := keepH hb2 R8.out
          have IB9 := keepH hb2 IB8.out
          have AB9 := keepH hb2 AB8.out
          have SB9 := keepH hb2 SB8.out
          have zw2 := hb2.size
          clear hb2 cS8 cA8
          dsimp only [nxV, Option.getD_some, Option.isSome_some]
          by_cases hxy : x = y
          · have e3 : (x != y) = false := by simp [hxy]
            have HXY := Lib.hid hxy
            have cS9 := cellH SB9
            clear hxy
            gi_wp2_with fail
            first | refine round_open ?_ | refine round_open2 ?_ | refine round_open3 ?_ | refine round_open4 ?_
            refine (hasS_any r A3 c3 x wv (moved HROW.out hx9) (by omega)).mono ?_
            rw [show hasB r x = true from by rw [HXY.out]; exact HHB.out]
            rintro e wu ⟨rfl, hb3⟩
            replace hoI : OnlyL [ib, ib + 1] wq wu := OnlyL.step hoI hb3
            have RB9 := keepH hb3 RB9.out
            have St9 := keepH hb3 St9.out
            have IB9 := keepH hb3 IB9.out
            have AB9 := keepH hb3 AB9.out
            have zw3 := hb3.size
            clear hb3 cS9 SB9 R9
            obtain ⟨wz, hwz⟩ : ∃ wz, (wu.setCell ⟨ib + 1, 0, none⟩ (.int .i64 (x + 1))).setCell ⟨ib, 0, none⟩ (.int .i64 ((pre.length : Int) + 1)) = wz := ⟨_, rfl⟩
            have hoZ : OnlyL [ib, ib + 1] wq wz := by rw [← hwz]; exact OnlyL.setCell (OnlyL.setCell hoI (.inl (by simp)) _) (.inl (by simp)) _
            have HLI : Hid (DeI r ib w7 (pre ++ [x]) wz) := by
              refine ⟨?_, ?_, HI2.out.trans (OnlyL.below hoZ (by omega) (fun k hk => by simp only [List.mem_cons, List.not_mem_nil, or_false] at hk; omega)), ?_⟩
              · rw [← hwz, show ((pre ++ [x]).length : Int) = (pre.length : Int) + 1 by simp]
                exact setBox (setOther IB9.out (by show ib ≠ ib + 1; omega)) _
              · rw [← hwz, atO_snoc]
                exact setOther (setBox AB9.out _) (by show ib + 1 ≠ ib; omega)
              · rw [List.length_append, List.length_singleton, HXY.out]
                exact take_day HI3.out HP.out
            have HKF := Lib.hid (OnlyL.from hoZ w7.heap.size HCI.out)
            have HKB : Hid (KeepC ib w7.heap.size wq wz) := KeepC.only hoZ (by omega) (fun k hk => by simp only [List.mem_cons, List.not_mem_nil, or_false] at hk; omega)
            have cI9 := cellH IB9
            have fI9 := frozH IB9
            have cA9 := cellH AB9
            have fA9 := frozH AB9
            have cB9 := cellH RB9
            have cT9 := cellH St9
            have cI10 := cellH (Lib.hid (setOther (p := ⟨ib + 1, 0, none⟩) (u := .int .i64 (x + 1)) IB9.out (by show ib ≠ ib + 1; omega)))
            have kw : IntKind.i64.wrap ((pre.length : Int) + 1) = (pre.length : Int) + 1 := by rw [IntKind.wrap_i64]; omega
            have kx : IntKind.i64.wrap (x + 1) = x + 1 := by rw [IntKind.wrap_i64]; have := HXY.out; have := HY9.out; omega
            have n1 : ib ≠ rb9 := by omega
            have n2 : ib ≠ w.heap.size := by omega
            have n3 : ib + 1 ≠ rb9 := by omega
            have n4 : ib + 1 ≠ w.heap.size := by omega
            have n5 : ib ≠ ib + 1 := by omega
            have lI9 := lt_of_H IB9
            have lA9 := lt_of_H AB9
            gi_upto_region 22 with fail

            have hwz2 := hwz.symm
            have RBz : Hid (wz.heap[rb9]? = some (.cells #[.int .i64 1] 3 (0, 0))) := by rw [hwz2]; exact setOther (setOther RB9.out (by show rb9 ≠ ib + 1; omega)) (by show rb9 ≠ ib; omega)
            have Stz : Hid (wz.heap[w.heap.size]? = some (.cells #[.int .i64 stop] 3 (0, 0))) := by rw [hwz2]; exact setOther (setOther St9.out (by show w.heap.size ≠ ib + 1; omega)) (by show w.heap.size ≠ ib; omega)
            have IBz : Hid (wz.heap[ib]? = some (.cells #[.int .i64 ((pre.length : Int) + 1)] 3 (0, 0))) := by rw [hwz2]; exact setBox (setOther IB9.out (by show ib ≠ ib + 1; omega)) _
            clear hwz hwz2 cI9 fI9 cA9 fA9 cB9 cT9 cI10 RB9 St9 IB9 AB9
            have cB9 := cellH RBz
            have cT9 := cellH Stz
            have cI9 := cellH IBz
            gi_wp2_with fail
            exact ⟨HKF.out, HKB.out, HLI.out⟩
          · have e3 : (x != y) = true := by simp [hxy]
            have HXY := Lib.hid hxy
            have cR9 := cellH R9
            have fR9 := frozH R9
            clear RB9 St9 IB9 AB9 SB9
            gi_wp2_with fail
            refine ⟨trivial, ?_⟩
            gi_wp2_with fail
            exact ⟨OnlyL.from (L := [w.heap.size + 1]) (OnlyL.setCell hoW (.inl (List.mem_singleton.2 rfl)) _) _ HCL.out, .inl (fun h => HXY.out (prefix_day h HP.out))⟩
        case done1 =>
          intro D1 xs W hD1 hxs hI hK
          rw [hxs] at hI
          obtain ⟨i1, i4, i2, i3⟩ := hI
          rw [HDL.out] at i1
          subst ha
          have zq := i2.size
          have St8 : Hid (W.heap[w.heap.size]? = some (.cells #[.int .i64 stop] 3 (0, 0))) := (i2.block _ l7St).trans St7.out
          have R8 : Hid (W.heap[w.heap.size + 1]? = some (.cells #[.bool false] 4 (0, 0))) := (i2.block _ l7R).trans R7.out
          have SB8 : Hid (W.heap[sb]? = some (.cells #[.slice A3 r.length c3] 77 (0, 0))) := (i2.block _ l7S).trans SB7.out
          have BX8 : Hid (W.heap[Bx]? = some (.cells #[.slice A3 r.length c3] 77 (0, 0))) := (i2.block _ l7B).trans BX7.out
          have RB8 : Hid (W.heap[rb9]? = some (.cells #[.int .i64 1] 3 (0, 0))) := (i2.block _ l7RB).trans RB7.out
          have HKD := Lib.hid hK
          have hw8 : Below w.heap.size w W := hw7.trans (i2.mono zw6)
          have hx8 : Below w2.heap.size w2 W := hx7.trans (i2.mono zx6)
          have KD08 := Lib.hid ((i2.block _ (by have := lD0; omega)).trans KD07.out)
          have IB8 : Hid (W.heap[ib]? = some (.cells #[.int .i64 DL] 3 (0, 0))) := i1
          have e6 : ((DL : Int) != (DL : Int)) = false := bne_self_eq_false _
          clear i1 i2 i3 i4 hK hxs
          have xI : W.cell? ⟨ib, 0, none⟩ = some (.int .i64 DL) := cellH IB8 0
          have xS : W.cell? ⟨sb, 0, none⟩ = some (.slice A3 r.length c3) := cellH SB8 0
          have xR : W.cell? ⟨rb9, 0, none⟩ = some (.int .i64 1) := cellH RB8 0
          have xT : W.cell? ⟨w.heap.size, 0, none⟩ = some (.int .i64 stop) := cellH St8 0
          gi_wp2_with fail
          refine (wpIn_wide (n := 3)).2 ?_
          refine wp_onlyN ?_
          refine wp_region_held_drew (S := fun w' => w'.cell? ⟨ib, 0, none⟩ = some (.int .i64 DL) ∧ w'.cell? ⟨sb, 0, none⟩ = some (.slice A3 r.length c3) ∧ w'.cell? ⟨rb9, 0, none⟩ = some (.int .i64 1) ∧ w'.cell? ⟨w.heap.size, 0, none⟩ = some (.int .i64 stop)) (by kernel_rfl) ?_ (fun hH0 => ?_)
          · exact ⟨xI, xS, xR, xT⟩
          refine wpAnyH_take (i := 0) (oi := { dst := some 76, op := Go.Op.load 3 (Go.Operand.tmp 10), type := 3, pos := "law.go:182", after := #[], guard := none }) (v := ?_) rfl (by kernel_rfl) (by kernel_rfl) (by kernel_rfl) (fun _ _ _ h => h) (Or.inl ⟨by rfl, ?_⟩) (by assumption) ?_
          rotate_left
          · intro wq hSw; (try dsimp only at hSw); go_simp; (try with_reducible rfl)
          try simp only [Act.put, List.setIfInBounds_toArray, List.set_cons_zero, List.set_cons_succ]
          refine wpAnyH_take (i := 1) (oi := { dst := some 77, op := Go.Op.load 77 (Go.Operand.tmp 6), type := 77, pos := "law.go:182", after := #[], guard := none }) (v := ?_) rfl (by kernel_rfl) (by kernel_rfl) (by kernel_rfl) (fun _ _ _ h => h) (Or.inl ⟨by rfl, ?_⟩) (by assumption) ?_
          rotate_left
          · intro wq hSw; (try dsimp only at hSw); go_simp; (try with_reducible rfl)
          try simp only [Act.put, List.setIfInBounds_toArray, List.set_cons_zero, List.set_cons_succ]
          refine wpAnyH_ready (rs := [2]) (by kernel_rfl) (by simp) ?_
          refine AllReadyH.cons (o := { dst := some 78, op := Go.Op.call { callee := Go.Callee.value (Go.Operand.func 60), args := #[Go.Operand.tmp 77], argTypes := #[77] }, type := 3, pos := "law.go:182", after := #[{ on := 1, ground := Go.Ground.data }], guard := none }) rfl (fun K hK => ?_) ?_
          rotate_left
          · exact AllReadyH.nil
          go_simp
          refine (lenS_any r A3 c3 _ (moved HROW.out hx8.drew) (by omega) CS.out).mono ?_
          rw [HLEN.out]
          rintro e wv ⟨rfl, hb2⟩
          replace hx8 : Below w2.heap.size w2 wv := stepH hx8.drew hb2
          replace hw8 : Below w.heap.size w wv := stepH hw8.drew hb2
          replace St8 := keepH hb2 (drew_old St8.out)
          replace R8 := keepH hb2 (drew_old R8.out)
          replace SB8 := keepH hb2 (drew_old SB8.out)
          replace BX8 := keepH hb2 (drew_old BX8.out)
          replace RB8 := keepH hb2 (drew_old RB8.out)
          replace HKD := keepH hb2 (drew_old HKD.out)
          replace KD08 := keepH hb2 (drew_old KD08.out)
          replace xI : wv.cell? ⟨ib, 0, none⟩ = some (.int .i64 DL) := cellOf hb2 (cell_drew xI)
          replace xS : wv.cell? ⟨sb, 0, none⟩ = some (.slice A3 r.length c3) := cellOf hb2 (cell_drew xS)
          replace xR : wv.cell? ⟨rb9, 0, none⟩ = some (.int .i64 1) := cellOf hb2 (cell_drew xR)
          replace xT : wv.cell? ⟨w.heap.size, 0, none⟩ = some (.int .i64 stop) := cellOf hb2 (cell_drew xT)
          have zq2 := hb2.size
          clear hb2
          go_wp2_with fail
          refine hK.out _ _ ?_ (fun hH1 => ?_)
          · (try dsimp only); exact ⟨xI, xS, xR, xT⟩
          clear hK K
          clear hH0
          try simp only [Act.put, List.setIfInBounds_toArray, List.set_cons_zero, List.set_cons_succ]
          refine wpAnyH_take (i := 3) (oi := { dst := some 79, op := Go.Op.binOp Go.BinOp.neq 3 (Go.Operand.tmp 76) (Go.Operand.tmp 78) 3, type := 4, pos := "law.go:182", after := #[{ on := 0, ground := Go.Ground.data }, { on := 2, ground := Go.Ground.data }], guard := none }) (v := ?_) rfl (by kernel_rfl) (by kernel_rfl) (by kernel_rfl) (fun _ _ _ h => h) (Or.inl ⟨by rfl, ?_⟩) (by assumption) ?_
          rotate_left
          · intro wq hSw; (try dsimp only at hSw); go_simp; (try with_reducible rfl)
          try simp only [Act.put, List.setIfInBounds_toArray, List.set_cons_zero, List.set_cons_succ]
          refine wpAnyH_take (i := 4) (oi := { dst := some 80, op := Go.Op.move (Go.Operand.tmp 79), type := 4, pos := "law.go:182", after := #[{ on := 3, ground := Go.Ground.data }, { on := 2, ground := Go.Ground.chain }], guard := none }) (v := ?_) rfl (by kernel_rfl) (by kernel_rfl) (by kernel_rfl) (fun _ _ _ h => h) (Or.inl ⟨by rfl, ?_⟩) (by assumption) ?_
          rotate_left
          · intro wq hSw; (try dsimp only at hSw); go_simp; (try with_reducible rfl)
          try simp only [Act.put, List.setIfInBounds_toArray, List.set_cons_zero, List.set_cons_succ]
          refine wpAnyH_take (i := 5) (oi := { dst := some 81, op := Go.Op.load 3 (Go.Operand.tmp 9), type := 3, pos := "law.go:182", after := #[{ on := 4, ground := Go.Ground.guard }], guard := some (4, true) }) (v := undef) rfl (by kernel_rfl) (by kernel_rfl) (by kernel_rfl) (fun _ _ _ h => h) (Or.inr ⟨by rfl, rfl⟩) (by assumption) ?_
          try simp only [Act.put, List.setIfInBounds_toArray, List.set_cons_zero, List.set_cons_succ]
          refine wpAnyH_take (i := 6) (oi := { dst := some 82, op := Go.Op.binOp Go.BinOp.eql 3 (Go.Operand.tmp 81) (Go.Operand.const (Go.Value.int Go.IntKind.i64 0)) 3, type := 4, pos := "law.go:182", after := #[{ on := 5, ground := Go.Ground.data }, { on := 4, ground := Go.Ground.guard }], guard := some (4, true) }) (v := undef) rfl (by kernel_rfl) (by kernel_rfl) (by kernel_rfl) (fun _ _ _ h => h) (Or.inr ⟨by rfl, rfl⟩) (by assumption) ?_
          try simp only [Act.put, List.setIfInBounds_toArray, List.set_cons_zero, List.set_cons_succ]
          refine wpAnyH_take (i := 7) (oi := { dst := some 83, op := Go.Op.move (Go.Operand.tmp 82), type := 4, pos := "law.go:182", after := #[{ on := 6, ground := Go.Ground.data }, { on := 4, ground := Go.Ground.chain }, { on := 4, ground := Go.Ground.guard }], guard := some (4, true) }) (v := undef) rfl (by kernel_rfl) (by kernel_rfl) (by kernel_rfl) (fun _ _ _ h => h) (Or.inr ⟨by rfl, rfl⟩) (by assumption) ?_
          try simp only [Act.put, List.setIfInBounds_toArray, List.set_cons_zero, List.set_cons_succ]
          refine wpAnyH_take (i := 8) (oi := { dst := some 84, op := Go.Op.load 3 (Go.Operand.tmp 10), type := 3, pos := "law.go:182", after := #[{ on := 7, ground := Go.Ground.guard }], guard := some (7, true) }) (v := undef) rfl (by kernel_rfl) (by kernel_rfl) (by kernel_rfl) (fun _ _ _ h => h) (Or.inr ⟨by rfl, rfl⟩) (by assumption) ?_
          try simp only [Act.put, List.setIfInBounds_toArray, List.set_cons_zero, List.set_cons_succ]
          refine wpAnyH_take (i := 9) (oi := { dst := some 85, op := Go.Op.load 3 (Go.Operand.tmp 3), type := 3, pos := "law.go:182", after := #[{ on := 7, ground := Go.Ground.guard }], guard := some (7, true) }) (v := undef) rfl (by kernel_rfl) (by kernel_rfl) (by kernel_rfl) (fun _ _ _ h => h) (Or.inr ⟨by rfl, rfl⟩) (by assumption) ?_
          try simp only [Act.put, List.setIfInBounds_toArray, List.set_cons_zero, List.set_cons_succ]
          refine wpAnyH_take (i := 10) (oi := { dst := some 86, op := Go.Op.binOp Go.BinOp.eql 3 (Go.Operand.tmp 84) (Go.Operand.tmp 85) 3, type := 4, pos := "law.go:182", after := #[{ on := 8, ground := Go.Ground.data }, { on := 9, ground := Go.Ground.data }, { on := 7, ground := Go.Ground.guard }], guard := some (7, true) }) (v := undef) rfl (by kernel_rfl) (by kernel_rfl) (by kernel_rfl) (fun _ _ _ h => h) (Or.inr ⟨by rfl, rfl⟩) (by assumption) ?_
          try simp only [Act.put, List.setIfInBounds_toArray, List.set_cons_zero, List.set_cons_succ]
          refine wpAnyH_take (i := 11) (oi := { dst := some 87, op := Go.Op.pick (Go.Operand.tmp 83) (Go.Operand.tmp 86) (Go.Operand.const (Go.Value.bool false)), type := 4, pos := "law.go:182", after := #[{ on := 7, ground := Go.Ground.data }, { on := 10, ground := Go.Ground.data }, { on := 4, ground := Go.Ground.guard }], guard := some (4, true) }) (v := undef) rfl (by kernel_rfl) (by kernel_rfl) (by kernel_rfl) (fun _ _ _ h => h) (Or.inr ⟨by rfl, rfl⟩) (by assumption) ?_
          try simp only [Act.put, List.setIfInBounds_toArray, List.set_cons_zero, List.set_cons_succ]
          refine wpAnyH_take (i := 12) (oi := { dst := some 88, op := Go.Op.unOp Go.UnOp.not 4 (Go.Operand.tmp 87), type := 4, pos := "law.go:182", after := #[{ on := 11, ground := Go.Ground.data }, { on := 4, ground := Go.Ground.guard }], guard := some (4, true) }) (v := undef) rfl (by kernel_rfl) (by kernel_rfl) (by kernel_rfl) (fun _ _ _ h => h) (Or.inr ⟨by rfl, rfl⟩) (by assumption) ?_
          try simp only [Act.put, List.setIfInBounds_toArray, List.set_cons_zero, List.set_cons_succ]
          refine wpAnyH_take (i := 13) (oi := { dst := some 89, op := Go.Op.pick (Go.Operand.tmp 80) (Go.Operand.tmp 88) (Go.Operand.const (Go.Value.bool false)), type := 4, pos := "law.go:182", after := #[{ on := 4, ground := Go.Ground.data }, { on := 12, ground := Go.Ground.data }], guard := none }) (v := ?_) rfl (by kernel_rfl) (by kernel_rfl) (by kernel_rfl) (fun _ _ _ h => h) (Or.inl ⟨by rfl, ?_⟩) (by assumption) ?_
          rotate_left
          · intro wq hSw; (try dsimp only at hSw); go_simp; (try with_reducible rfl)
          try simp only [Act.put, List.setIfInBounds_toArray, List.set_cons_zero, List.set_cons_succ]
          refine wpAnyH_done (by kernel_rfl) ?_ _
          refine onlyN_normal ?_
          clear xI xS xR xT
          have cRB := cellH RB8
          gi_wp2_with fail
          clear e6 IB8
          have RB9 : Hid ((wv.alloc (.cells #[.int .i64 2] 3)).heap[wv.heap.size]? = some (.cells #[.int .i64 2] 3 (0, 0))) := blk_new rfl
          have St6 := Lib.hid (blk_old (o := .cells #[.int .i64 2] 3) St8.out)
          have R6 := Lib.hid (blk_old (o := .cells #[.int .i64 2] 3) R8.out)
          have SB6 := Lib.hid (blk_old (o := .cells #[.int .i64 2] 3) SB8.out)
          have BX6 := Lib.hid (blk_old (o := .cells #[.int .i64 2] 3) BX8.out)
          have KD1 := Lib.hid (blk_old (o := .cells #[.int .i64 2] 3) HKD.out)
          have KD0b := Lib.hid (blk_old (o := .cells #[.int .i64 2] 3) KD08.out)
          have zw8 := hw8.size
          have zx8 := hx8.size
          have hw6 : Below w.heap.size w (wv.alloc (.cells #[.int .i64 2] 3)) := by (repeat' (first | with_reducible exact Below.refl _ _ | with_reducible assumption | with_reducible refine Below.drew ?_ | with_reducible refine below_drewN ?_ _ | with_reducible refine Below.setCell ?_ ?_ _ | with_reducible refine Below.alloc ?_ ?_ _ | omega | (simp; done) | (simp; omega)))
          have hx6 : Below w2.heap.size w2 (wv.alloc (.cells #[.int .i64 2] 3)) := by (repeat' (first | with_reducible exact Below.refl _ _ | with_reducible assumption | with_reducible refine Below.drew ?_ | with_reducible refine below_drewN ?_ _ | with_reducible refine Below.setCell ?_ ?_ _ | with_reducible refine Below.alloc ?_ ?_ _ | omega | (simp; done) | (simp; omega)))
          obtain ⟨rb9, hrb⟩ : ∃ rb9, wv.heap.size = rb9 := ⟨_, rfl⟩
          clear St8 R8 SB8 BX8 RB8 HKD hw8 hx8 cRB St7 R7 SB7 BX7 RB7 IB7 AB7 hw7 hx7 HA7
          generalize (wv.alloc (.cells #[.int .i64 2] 3)) = w69 at *
          rw [hrb] at RB9 ⊢
          rw [hrb] at zw8 zx8 zq2
          clear hrb
          have cRB := cellH RB9
          have cS6 := cellH SB6
          have cR := cellH R6
          have fzR := frozH R6
          rw [roundsIn_succ]
          gi_wp2_with fail

          have k1 : (w69.setCell ⟨w.heap.size + 1, 0, none⟩ (.bool true)).heap[D1]? = some (.deferred (some [])) := (KeepsOthers.setCell _ _ _).same D1 _ KD1.out rfl
          have k0 : ((w69.setCell ⟨w.heap.size + 1, 0, none⟩ (.bool true)).putObj D1 (.deferred none)).heap[D0]? = some (.deferred (some [])) := (World.putObj_heap_other (by omega)).trans ((KeepsOthers.setCell _ _ _).same D0 _ KD0b.out rfl)
          have HR : Hid ((((w69.setCell ⟨w.heap.size + 1, 0, none⟩ (.bool true)).putObj D1 (.deferred none)).putObj D0 (.deferred none)).heap[w.heap.size + 1]? = some (.cells #[.bool true] 4 (0, 0))) := (World.putObj_heap_other (by omega)).trans ((World.putObj_heap_other (by omega)).trans (setBox R6.out _))
          have hB : Below w.heap.size w (((w69.setCell ⟨w.heap.size + 1, 0, none⟩ (.bool true)).putObj D1 (.deferred none)).putObj D0 (.deferred none)) := Below.trans (Below.trans (hw6.setCell (by simp) _) (belowK_b (w := w) (Nat.le_refl _) _ D1 _ _ (by omega) k1 rfl rfl)) (belowK_b (w := w) (Nat.le_refl _) _ D0 _ _ (by omega) k0 rfl rfl)
          refine ⟨by simp, .inl ⟨_, _, rfl, run_takeDeferred k1, ⟨by simp, .inl ⟨_, _, rfl, run_takeDeferred k0, ?_⟩⟩⟩⟩
          clear k1 k0
          generalize (((w69.setCell ⟨w.heap.size + 1, 0, none⟩ (.bool true)).putObj D1 (.deferred none)).putObj D0 (.deferred none)) = wz at HR hB ⊢
          have c4 := cellH HR
          exact ⟨_, (by simp [results, Tryd.results9, go_sem, c4]), rfl, hB⟩

        case stop1 =>
          rintro D1 c pre W hD hpre hX hK
          rcases hX with h | ⟨h1, _, _⟩
          · exact absurd hpre h
          · omega
      · have e6 : ((pre.length : Int) != (DL : Int)) = true := by rw [bne_iff_ne]; omega
        have e7 : ((pre.length : Int) == stop) = true := by simp [hst]
        clear hst hpl
        have xI : W.cell? ⟨ib, 0, none⟩ = some (.int .i64 pre.length) := cellH IB8 0
        have xS : W.cell? ⟨sb, 0, none⟩ = some (.slice A3 r.length c3) := cellH SB8 0
        have xR : W.cell? ⟨rb, 0, none⟩ = some (.int .i64 0) := cellH RB8 0
        have xT : W.cell? ⟨w.heap.size, 0, none⟩ = some (.int .i64 stop) := cellH St8 0
        gi_wp2_with fail
        refine (wpIn_wide (n := 3)).2 ?_
        refine wp_onlyN ?_
        refine wp_region_held_drew (S := fun w' => w'.cell? ⟨ib, 0, none⟩ = some (.int .i64 pre.length) ∧ w'.cell? ⟨sb, 0, none⟩ = some (.slice A3 r.length c3) ∧ w'.cell? ⟨rb, 0, none⟩ = some (.int .i64 0) ∧ w'.cell? ⟨w.heap.size, 0, none⟩ = some (.int .i64 stop)) (by kernel_rfl) ?_ (fun hH0 => ?_)
        · exact ⟨xI, xS, xR, xT⟩
        refine wpAnyH_take (i := 0) (oi := { dst := some 76, op := Go.Op.load 3 (Go.Operand.tmp 10), type := 3, pos := "law.go:182", after := #[], guard := none }) (v := ?_) rfl (by kernel_rfl) (by kernel_rfl) (by kernel_rfl) (fun _ _ _ h => h) (Or.inl ⟨by rfl, ?_⟩) (by assumption) ?_
        rotate_left
        · intro wq hSw; (try dsimp only at hSw); go_simp; (try with_reducible rfl)
        try simp only [Act.put, List.setIfInBounds_toArray, List.set_cons_zero, List.set_cons_succ]
        refine wpAnyH_take (i := 1) (oi := { dst := some 77, op := Go.Op.load 77 (Go.Operand.tmp 6), type := 77, pos := "law.go:182", after := #[], guard := none }) (v := ?_) rfl (by kernel_rfl) (by kernel_rfl) (by kernel_rfl) (fun _ _ _ h => h) (Or.inl ⟨by rfl, ?_⟩) (by assumption) ?_
        rotate_left
        · intro wq hSw; (try dsimp only at hSw); go_simp; (try with_reducible rfl)
        try simp only [Act.put, List.setIfInBounds_toArray, List.set_cons_zero, List.set_cons_succ]
        refine wpAnyH_ready (rs := [2]) (by kernel_rfl) (by simp) ?_
        refine AllReadyH.cons (o := { dst := some 78, op := Go.Op.call { callee := Go.Callee.value (Go.Operand.func 60), args := #[Go.Operand.tmp 77], argTypes := #[77] }, type := 3, pos := "law.go:182", after := #[{ on := 1, ground := Go.Ground.data }], guard := none }) rfl (fun K hK => ?_) ?_
        rotate_left
        · exact AllReadyH.nil
        go_simp
        refine (lenS_any r A3 c3 _ (moved HROW.out hx8.drew) (by omega) CS.out).mono ?_
        rw [HLEN.out]
        rintro e wv ⟨rfl, hb2⟩
        replace hx8 : Below w2.heap.size w2 wv := stepH hx8.drew hb2
        replace hw8 : Below w.heap.size w wv := stepH hw8.drew hb2
        replace St8 := keepH hb2 (drew_old St8.out)
        replace R8 := keepH hb2 (drew_old R8.out)
        replace SB8 := keepH hb2 (drew_old SB8.out)
        replace BX8 := keepH hb2 (drew_old BX8.out)
        replace RB8 := keepH hb2 (drew_old RB8.out)
        replace HKD := keepH hb2 (drew_old HKD.out)
        replace xI : wv.cell? ⟨ib, 0, none⟩ = some (.int .i64 pre.length) := cellOf hb2 (cell_drew xI)
        replace xS : wv.cell? ⟨sb, 0, none⟩ = some (.slice A3 r.length c3) := cellOf hb2 (cell_drew xS)
        replace xR : wv.cell? ⟨rb, 0, none⟩ = some (.int .i64 0) := cellOf hb2 (cell_drew xR)
        replace xT : wv.cell? ⟨w.heap.size, 0, none⟩ = some (.int .i64 stop) := cellOf hb2 (cell_drew xT)
        have zq2 := hb2.size
        clear hb2
        go_wp2_with fail
        refine hK.out _ _ ?_ (fun hH1 => ?_)
        · (try dsimp only); exact ⟨xI, xS, xR, xT⟩
        clear hK K
        clear hH0
        try simp only [Act.put, List.setIfInBounds_toArray, List.set_cons_zero, List.set_cons_succ]
        refine wpAnyH_take (i := 3) (oi := { dst := some 79, op := Go.Op.binOp Go.BinOp.neq 3 (Go.Operand.tmp 76) (Go.Operand.tmp 78) 3, type := 4, pos := "law.go:182", after := #[{ on := 0, ground := Go.Ground.data }, { on := 2, ground := Go.Ground.data }], guard := none }) (v := ?_) rfl (by kernel_rfl) (by kernel_rfl) (by kernel_rfl) (fun _ _ _ h => h) (Or.inl ⟨by rfl, ?_⟩) (by assumption) ?_
        rotate_left
        · intro wq hSw; (try dsimp only at hSw); go_simp; (try with_reducible rfl)
        try simp only [Act.put, List.setIfInBounds_toArray, List.set_cons_zero, List.set_cons_succ]
        refine wpAnyH_take (i := 4) (oi := { dst := some 80, op := Go.Op.move (Go.Operand.tmp 79), type := 4, pos := "law.go:182", after := #[{ on := 3, ground := Go.Ground.data }, { on := 2, ground := Go.Ground.chain }], guard := none }) (v := ?_) rfl (by kernel_rfl) (by kernel_rfl) (by kernel_rfl) (fun _ _ _ h => h) (Or.inl ⟨by rfl, ?_⟩) (by assumption) ?_
        rotate_left
        · intro wq hSw; (try dsimp only at hSw); go_simp; (try with_reducible rfl)
        try simp only [Act.put, List.setIfInBounds_toArray, List.set_cons_zero, List.set_cons_succ]
        refine wpAnyH_take (i := 5) (oi := { dst := some 81, op := Go.Op.load 3 (Go.Operand.tmp 9), type := 3, pos := "law.go:182", after := #[{ on := 4, ground := Go.Ground.guard }], guard := some (4, true) }) (v := ?_) rfl (by kernel_rfl) (by kernel_rfl) (by kernel_rfl) (fun _ _ _ h => h) (Or.inl ⟨by rfl, ?_⟩) (by assumption) ?_
        rotate_left
        · intro wq hSw; (try dsimp only at hSw); go_simp; (try with_reducible rfl)
        try simp only [Act.put, List.setIfInBounds_toArray, List.set_cons_zero, List.set_cons_succ]
        refine wpAnyH_take (i := 6) (oi := { dst := some 82, op := Go.Op.binOp Go.BinOp.eql 3 (Go.Operand.tmp 81) (Go.Operand.const (Go.Value.int Go.IntKind.i64 0)) 3, type := 4, pos := "law.go:182", after := #[{ on := 5, ground := Go.Ground.data }, { on := 4, ground := Go.Ground.guard }], guard := some (4, true) }) (v := ?_) rfl (by kernel_rfl) (by kernel_rfl) (by kernel_rfl) (fun _ _ _ h => h) (Or.inl ⟨by rfl, ?_⟩) (by assumption) ?_
        rotate_left
        · intro wq hSw; (try dsimp only at hSw); go_simp; (try with_reducible rfl)
        try simp only [Act.put, List.setIfInBounds_toArray, List.set_cons_zero, List.set_cons_succ]
        refine wpAnyH_take (i := 7) (oi := { dst := some 83, op := Go.Op.move (Go.Operand.tmp 82), type := 4, pos := "law.go:182", after := #[{ on := 6, ground := Go.Ground.data }, { on := 4, ground := Go.Ground.chain }, { on := 4, ground := Go.Ground.guard }], guard := some (4, true) }) (v := ?_) rfl (by kernel_rfl) (by kernel_rfl) (by kernel_rfl) (fun _ _ _ h => h) (Or.inl ⟨by rfl, ?_⟩) (by assumption) ?_
        rotate_left
        · intro wq hSw; (try dsimp only at hSw); go_simp; (try with_reducible rfl)
        try simp only [Act.put, List.setIfInBounds_toArray, List.set_cons_zero, List.set_cons_succ]
        refine wpAnyH_take (i := 8) (oi := { dst := some 84, op := Go.Op.load 3 (Go.Operand.tmp 10), type := 3, pos := "law.go:182", after := #[{ on := 7, ground := Go.Ground.guard }], guard := some (7, true) }) (v := ?_) rfl (by kernel_rfl) (by kernel_rfl) (by kernel_rfl) (fun _ _ _ h => h) (Or.inl ⟨by rfl, ?_⟩) (by assumption) ?_
        rotate_left
        · intro wq hSw; (try dsimp only at hSw); go_simp; (try with_reducible rfl)
        try simp only [Act.put, List.setIfInBounds_toArray, List.set_cons_zero, List.set_cons_succ]
        refine wpAnyH_take (i := 9) (oi := { dst := some 85, op := Go.Op.load 3 (Go.Operand.tmp 3), type := 3, pos := "law.go:182", after := #[{ on := 7, ground := Go.Ground.guard }], guard := some (7, true) }) (v := ?_) rfl (by kernel_rfl) (by kernel_rfl) (by kernel_rfl) (fun _ _ _ h => h) (Or.inl ⟨by rfl, ?_⟩) (by assumption) ?_
        rotate_left
        · intro wq hSw; (try dsimp only at hSw); go_simp; (try with_reducible rfl)
        try simp only [Act.put, List.setIfInBounds_toArray, List.set_cons_zero, List.set_cons_succ]
        refine wpAnyH_take (i := 10) (oi := { dst := some 86, op := Go.Op.binOp Go.BinOp.eql 3 (Go.Operand.tmp 84) (Go.Operand.tmp 85) 3, type := 4, pos := "law.go:182", after := #[{ on := 8, ground := Go.Ground.data }, { on := 9, ground := Go.Ground.data }, { on := 7, ground := Go.Ground.guard }], guard := some (7, true) }) (v := ?_) rfl (by kernel_rfl) (by kernel_rfl) (by kernel_rfl) (fun _ _ _ h => h) (Or.inl ⟨by rfl, ?_⟩) (by assumption) ?_
        rotate_left
        · intro wq hSw; (try dsimp only at hSw); go_simp; (try with_reducible rfl)
        try simp only [Act.put, List.setIfInBounds_toArray, List.set_cons_zero, List.set_cons_succ]
        refine wpAnyH_take (i := 11) (oi := { dst := some 87, op := Go.Op.pick (Go.Operand.tmp 83) (Go.Operand.tmp 86) (Go.Operand.const (Go.Value.bool false)), type := 4, pos := "law.go:182", after := #[{ on := 7, ground := Go.Ground.data }, { on := 10, ground := Go.Ground.data }, { on := 4, ground := Go.Ground.guard }], guard := some (4, true) }) (v := ?_) rfl (by kernel_rfl) (by kernel_rfl) (by kernel_rfl) (fun _ _ _ h => h) (Or.inl ⟨by rfl, ?_⟩) (by assumption) ?_
        rotate_left
        · intro wq hSw; (try dsimp only at hSw); go_simp; (try with_reducible rfl)
        try simp only [Act.put, List.setIfInBounds_toArray, List.set_cons_zero, List.set_cons_succ]
        refine wpAnyH_take (i := 12) (oi := { dst := some 88, op := Go.Op.unOp Go.UnOp.not 4 (Go.Operand.tmp 87), type := 4, pos := "law.go:182", after := #[{ on := 11, ground := Go.Ground.data }, { on := 4, ground := Go.Ground.guard }], guard := some (4, true) }) (v := ?_) rfl (by kernel_rfl) (by kernel_rfl) (by kernel_rfl) (fun _ _ _ h => h) (Or.inl ⟨by rfl, ?_⟩) (by assumption) ?_
        rotate_left
        · intro wq hSw; (try dsimp only at hSw); go_simp; (try with_reducible rfl)
        try simp only [Act.put, List.setIfInBounds_toArray, List.set_cons_zero, List.set_cons_succ]
        refine wpAnyH_take (i := 13) (oi := { dst := some 89, op := Go.Op.pick (Go.Operand.tmp 80) (Go.Operand.tmp 88) (Go.Operand.const (Go.Value.bool false)), type := 4, pos := "law.go:182", after := #[{ on := 4, ground := Go.Ground.data }, { on := 12, ground := Go.Ground.data }], guard := none }) (v := ?_) rfl (by kernel_rfl) (by kernel_rfl) (by kernel_rfl) (fun _ _ _ h => h) (Or.inl ⟨by rfl, ?_⟩) (by assumption) ?_
        rotate_left
        · intro wq hSw; (try dsimp only at hSw); go_simp; (try with_reducible rfl)
        try simp only [Act.put, List.setIfInBounds_toArray, List.set_cons_zero, List.set_cons_succ]
        refine wpAnyH_done (by kernel_rfl) ?_ _
        refine onlyN_normal ?_
        clear xI xS xR xT
        have cRB := cellH RB8
        gi_wp2_with fail
        clear e6 e7 IB8
        have RB9 : Hid ((wv.alloc (.cells #[.int .i64 1] 3)).heap[wv.heap.size]? = some (.cells #[.int .i64 1] 3 (0, 0))) := blk_new rfl
        have St6 := Lib.hid (blk_old (o := .cells #[.int .i64 1] 3) St8.out)
        have R6 := Lib.hid (blk_old (o := .cells #[.int .i64 1] 3) R8.out)
        have SB6 := Lib.hid (blk_old (o := .cells #[.int .i64 1] 3) SB8.out)
        have BX6 := Lib.hid (blk_old (o := .cells #[.int .i64 1] 3) BX8.out)
        have KD0 := Lib.hid (blk_old (o := .cells #[.int .i64 1] 3) HKD.out)

        have zw8 := hw8.size
        have zx8 := hx8.size
        have hw6 : Below w.heap.size w (wv.alloc (.cells #[.int .i64 1] 3)) := by (repeat' (first | with_reducible exact Below.refl _ _ | with_reducible assumption | with_reducible refine Below.drew ?_ | with_reducible refine below_drewN ?_ _ | with_reducible refine Below.setCell ?_ ?_ _ | with_reducible refine Below.alloc ?_ ?_ _ | omega | (simp; done) | (simp; omega)))
        have hx6 : Below w2.heap.size w2 (wv.alloc (.cells #[.int .i64 1] 3)) := by (repeat' (first | with_reducible exact Below.refl _ _ | with_reducible assumption | with_reducible refine Below.drew ?_ | with_reducible refine below_drewN ?_ _ | with_reducible refine Below.setCell ?_ ?_ _ | with_reducible refine Below.alloc ?_ ?_ _ | omega | (simp; done) | (simp; omega)))
        obtain ⟨rb9, hrb⟩ : ∃ rb, wv.heap.size = rb := ⟨_, rfl⟩
        clear St8 R8 SB8 BX8 RB8 HKD hw8 hx8 cRB St7 R7 SB7 BX7 RB7 IB7 AB7 hw7 hx7 HA7
        generalize (wv.alloc (.cells #[.int .i64 1] 3)) = w69 at *
        rw [hrb] at RB9 ⊢
        rw [hrb] at zw8 zx8 zq2
        clear hrb
        have cRB := cellH RB9
        have cS6 := cellH SB6

        rw [roundsIn_succ]
        gi_wp2_with fail
        have IB7 : Hid (((w69.alloc (.cells #[.int .i64 0] 3)).alloc (.cells #[.int .i64 0] 3)).heap[w69.heap.size]? = some (.cells #[.int .i64 0] 3 (0, 0))) := blk_old (blk_new rfl)
        have AB7 : Hid (((w69.alloc (.cells #[.int .i64 0] 3)).alloc (.cells #[.int .i64 0] 3)).heap[w69.heap.size + 1]? = some (.cells #[.int .i64 0] 3 (0, 0))) := blk_new (by simp)
        have St7 := Lib.hid (blk_old (o := .cells #[.int .i64 0] 3) (blk_old (o := .cells #[.int .i64 0] 3) St6.out))
        have R7 := Lib.hid (blk_old (o := .cells #[.int .i64 0] 3) (blk_old (o := .cells #[.int .i64 0] 3) R6.out))
        have SB7 := Lib.hid (blk_old (o := .cells #[.int .i64 0] 3) (blk_old (o := .cells #[.int .i64 0] 3) SB6.out))
        have BX7 := Lib.hid (blk_old (o := .cells #[.int .i64 0] 3) (blk_old (o := .cells #[.int .i64 0] 3) BX6.out))
        have RB7 := Lib.hid (blk_old (o := .cells #[.int .i64 0] 3) (blk_old (o := .cells #[.int .i64 0] 3) RB9.out))
        have KD07 := Lib.hid (blk_old (o := .cells #[.int .i64 0] 3) (blk_old (o := .cells #[.int .i64 0] 3) KD0.out))
        have lD0 : D0 < w69.heap.size := (Array.getElem?_eq_some_iff.1 KD0.out).1
        have zw6 := hw6.size
        have zx6 := hx6.size
        have hw7 : Below w.heap.size w ((w69.alloc (.cells #[.int .i64 0] 3)).alloc (.cells #[.int .i64 0] 3)) := by (repeat' (first | with_reducible exact Below.refl _ _ | with_reducible assumption | with_reducible refine Below.drew ?_ | with_reducible refine below_drewN ?_ _ | with_reducible refine Below.setCell ?_ ?_ _ | with_reducible refine Below.alloc ?_ ?_ _ | omega | (simp; done) | (simp; omega)))
        have hx7 : Below w2.heap.size w2 ((w69.alloc (.cells #[.int .i64 0] 3)).alloc (.cells #[.int .i64 0] 3)) := by (repeat' (first | with_reducible exact Below.refl _ _ | with_reducible assumption | with_reducible refine Below.drew ?_ | with_reducible refine below_drewN ?_ _ | with_reducible refine Below.setCell ?_ ?_ _ | with_reducible refine Below.alloc ?_ ?_ _ | omega | (simp; done) | (simp; omega)))
        have hu7 : w69.heap.size + 1 < ((w69.alloc (.cells #[.int .i64 0] 3)).alloc (.cells #[.int .i64 0] 3)).heap.size := by simp
        have l7St := lt_of_H St6
        have l7R := lt_of_H R6
        have l7S := lt_of_H SB6
        have l7B := lt_of_H BX6
        have l7RB := lt_of_H RB9
        obtain ⟨ib, hib⟩ : ∃ ib, w69.heap.size = ib := ⟨_, rfl⟩
        clear St6 R6 SB6 BX6 RB9 hw6 hx6 cRB cS6
        generalize ((w69.alloc (.cells #[.int .i64 0] 3)).alloc (.cells #[.int .i64 0] 3)) = w7 at *
        rw [hib] at IB7 AB7 hu7 l7St l7R l7S l7B l7RB zw6 zx6 lD0 ⊢
        clear hib
        have HA7 : RowAt encU 2 w7 ib A3 r := (HROW.out.below hx7 (Nat.le_refl _)).more zx6
        generalize ha : Act.mk _ _ = a0
        refine wpIn_rangeFunc_ownH rfl (by decide) (gf := 114) (lb := #[.pointer (some ⟨Bx, 0, none⟩)]) (by rw [← ha]; rfl) trivial (enters_of Tryd.func114 (by kernel_rfl) rfl)
          (days1_stops r A3 c3 (by omega) CS.out.valid (3 - 1) Bx ib l7B w7 (by omega) BX7 HA7)
          KeepC.trans (fun W l o o' hl h q1 q2 => keepC_b (m := ib) (h0 := w7.heap.size) (w := w7) (by omega) W l o o' hl h q1 q2) (Below.refl _ _) (fun x => rfl)
          (DeI r ib w7) (DeX r ib w7 (-1)) (DeI_own (by omega) (Nat.le_refl _)) (fun c => DeX_own c (by omega) (Nat.le_refl _)) ⟨IB7.out, AB7.out, Below.refl _ _, rfl⟩
          (fun x a' W => a' = { tmps := ((a0.tmps.setIfInBounds 45 (.int .i64 x)).setIfInBounds 12 (.int .i64 x)), defers := [] })
          (fun x a' s W W' row hs hg hr => hs) ?assign1 ?body1 ?done1 ?stop1
        case assign1 =>
          intro l9 pre x W K hI hK
          subst ha
          gi_wp2_with fail
          have h9 := hK _ _ (KeepsFrom.refl _ _) (KeepC.refl _ _ _) hI rfl
          simp only [List.setIfInBounds_toArray, List.set_cons_zero, List.set_cons_succ] at h9
          exact h9
        case body1 =>
          rintro l9 pre x a' wq hl9 ⟨rr, hrr⟩ ⟨i1, i4, i2, i3⟩ rfl hlt
          have zq := i2.size
          subst ha
          try simp only [List.setIfInBounds_toArray, List.set_cons_zero, List.set_cons_succ]
          have St8 : Hid (wq.heap[w.heap.size]? = some (.cells #[.int .i64 stop] 3 (0, 0))) := (i2.block _ l7St).trans St7.out
          have R8 : Hid (wq.heap[w.heap.size + 1]? = some (.cells #[.bool false] 4 (0, 0))) := (i2.block _ l7R).trans R7.out
          have SB8 : Hid (wq.heap[sb]? = some (.cells #[.slice A3 r.length c3] 77 (0, 0))) := (i2.block _ l7S).trans SB7.out
          have RB8 : Hid (wq.heap[rb9]? = some (.cells #[.int .i64 1] 3 (0, 0))) := (i2.block _ l7RB).trans RB7.out
          have IB8 : Hid (wq.heap[ib]? = some (.cells #[.int .i64 pre.length] 3 (0, 0))) := i1
          have AB8 : Hid (wq.heap[ib + 1]? = some (.cells #[.int .i64 (atO pre)] 3 (0, 0))) := i4
          have hx8 : Below w2.heap.size w2 wq := hx7.trans (i2.mono zx6)
          obtain ⟨y, hp⟩ : ∃ p, (daysL r)[pre.length]? = some p := ⟨_, List.getElem?_eq_getElem hlt⟩
          obtain ⟨hn1, hn2, hn3⟩ := next_day CS.out.rise i3 hp
          have HNX := Lib.hid hn1
          have HHB := Lib.hid hn2
          have HY9 : Hid (0 ≤ y ∧ y < 3652059) := ⟨hn3, by obtain ⟨q, hq, _, q2⟩ := hasB_iff.1 hn2; have := CS.out.upTo q hq; dsimp only [MD] at this; omega⟩
          have HP := Lib.hid hp
          have HI2 := Lib.hid i2
          have HI3 := Lib.hid i3
          have hlD : pre.length < DL := by rw [← HDL.out]; exact hlt
          clear hp i1 i2 i3 i4 hn1 hn2 hn3 hlt
          have HCL : Hid (∀ k ∈ [w.heap.size + 1], ∃ cs t z, wq.heap[k]? = some (.cells cs t z)) := by
            intro k hk
            simp only [List.mem_cons, List.not_mem_nil, or_false] at hk
            subst hk
            exact ⟨_, _, _, R8.out⟩
          have HCI : Hid (∀ k ∈ [ib, ib + 1], ∃ cs t z, wq.heap[k]? = some (.cells cs t z)) := by
            intro k hk
            simp only [List.mem_cons, List.not_mem_nil, or_false] at hk
            rcases hk with rfl | rfl
            · exact ⟨_, _, _, IB8.out⟩
            · exact ⟨_, _, _, AB8.out⟩
          have cS8 := cellH SB8
          have cA8 := cellH AB8
          gi_wp2_with fail
          first | refine round_open ?_ | refine round_open2 ?_ | refine round_open3 ?_ | refine round_open4 ?_
          refine (nextS_any r A3 c3 (atO pre) wq (moved HROW.out hx8) (by omega)).mono ?_
          rw [HNX.out]
          rintro e wv ⟨rfl, hb2⟩
          have hoI : OnlyL [ib, ib + 1] wq wv := OnlyL.step (OnlyL.refl _ _) hb2
          have hoW : OnlyL [w.heap.size + 1] wq wv := OnlyL.step (OnlyL.refl _ _) hb2
          have hx9 : Below w2.heap.size w2 wv := hx8.trans (hb2.mono hx8.size)
          have RB9 := keepH hb2 RB8.out
          have St9 := keepH hb2 St8.out
          have R9 := keepH hb2 R8.out
          have IB9 := keepH hb2 IB8.out
          have AB9 := keepH hb2 AB8.out
          have SB9 := keepH hb2 SB8.out
          have zw2 := hb2.size
          clear hb2 cS8 cA8
          dsimp only [nxV, Option.getD_some, Option.isSome_some]
          by_cases hxy : x = y
          · have e3 : (x != y) = false := by simp [hxy]
            have HXY := Lib.hid hxy
            have cS9 := cellH SB9
            clear hxy
            gi_wp2_with fail
            first | refine round_open ?_ | refine round_open2 ?_ | refine round_open3 ?_ | refine round_open4 ?_
            refine (hasS_any r A3 c3 x wv (moved HROW.out hx9) (by omega)).mono ?_
            rw [show hasB r x = true from by rw [HXY.out]; exact HHB.out]
            rintro e wu ⟨rfl, hb3⟩
            replace hoI : OnlyL [ib, ib + 1] wq wu := OnlyL.step hoI hb3
            have RB9 := keepH hb3 RB9.out
            have St9 := keepH hb3 St9.out
            have IB9 := keepH hb3 IB9.out
            have AB9 := keepH hb3 AB9.out
            have zw3 := hb3.size
            clear hb3 cS9 SB9 R9
            obtain ⟨wz, hwz⟩ : ∃ wz, (wu.setCell ⟨ib + 1, 0, none⟩ (.int .i64 (x + 1))).setCell ⟨ib, 0, none⟩ (.int .i64 ((pre.length : Int) + 1)) = wz := ⟨_, rfl⟩
            have hoZ : OnlyL [ib, ib + 1] wq wz := by rw [← hwz]; exact OnlyL.setCell (OnlyL.setCell hoI (.inl (by simp)) _) (.inl (by simp)) _
            have HLI : Hid (DeI r ib w7 (pre ++ [x]) wz) := by
              refine ⟨?_, ?_, HI2.out.trans (OnlyL.below hoZ (by omega) (fun k hk => by simp only [List.mem_cons, List.not_mem_nil, or_false] at hk; omega)), ?_⟩
              · rw [← hwz, show ((pre ++ [x]).length : Int) = (pre.length : Int) + 1 by simp]
                exact setBox (setOther IB9.out (by show ib ≠ ib + 1; omega)) _
              · rw [← hwz, atO_snoc]
                exact setOther (setBox AB9.out _) (by show ib + 1 ≠ ib; omega)
              · rw [List.length_append, List.length_singleton, HXY.out]
                exact take_day HI3.out HP.out
            have HKF := Lib.hid (OnlyL.from hoZ w7.heap.size HCI.out)
            have HKB : Hid (KeepC ib w7.heap.size wq wz) := KeepC.only hoZ (by omega) (fun k hk => by simp only [List.mem_cons, List.not_mem_nil, or_false] at hk; omega)
            have cI9 := cellH IB9
            have fI9 := frozH IB9
            have cA9 := cellH AB9
            have fA9 := frozH AB9
            have cB9 := cellH RB9
            have cT9 := cellH St9
            have cI10 := cellH (Lib.hid (setOther (p := ⟨ib + 1, 0, none⟩) (u := .int .i64 (x + 1)) IB9.out (by show ib ≠ ib + 1; omega)))
            have kw : IntKind.i64.wrap ((pre.length : Int) + 1) = (pre.length : Int) + 1 := by rw [IntKind.wrap_i64]; omega
            have kx : IntKind.i64.wrap (x + 1) = x + 1 := by rw [IntKind.wrap_i64]; have := HXY.out; have := HY9.out; omega
            have n1 : ib ≠ rb9 := by omega
            have n2 : ib ≠ w.heap.size := by omega
            have n3 : ib + 1 ≠ rb9 := by omega
            have n4 : ib + 1 ≠ w.heap.size := by omega
            have n5 : ib ≠ ib + 1 := by omega
            have lI9 := lt_of_H IB9
            have lA9 := lt_of_H AB9
            gi_upto_region 22 with fail

            have hwz2 := hwz.symm
            have RBz : Hid (wz.heap[rb9]? = some (.cells #[.int .i64 1] 3 (0, 0))) := by rw [hwz2]; exact setOther (setOther RB9.out (by show rb9 ≠ ib + 1; omega)) (by show rb9 ≠ ib; omega)
            have Stz : Hid (wz.heap[w.heap.size]? = some (.cells #[.int .i64 stop] 3 (0, 0))) := by rw [hwz2]; exact setOther (setOther St9.out (by show w.heap.size ≠ ib + 1; omega)) (by show w.heap.size ≠ ib; omega)
            have IBz : Hid (wz.heap[ib]? = some (.cells #[.int .i64 ((pre.length : Int) + 1)] 3 (0, 0))) := by rw [hwz2]; exact setBox (setOther IB9.out (by show ib ≠ ib + 1; omega)) _
            clear hwz hwz2 cI9 fI9 cA9 fA9 cB9 cT9 cI10 RB9 St9 IB9 AB9
            have cB9 := cellH RBz
            have cT9 := cellH Stz
            have cI9 := cellH IBz
            gi_wp2_with fail
            exact ⟨HKF.out, HKB.out, HLI.out⟩
          · have e3 : (x != y) = true := by simp [hxy]
            have HXY := Lib.hid hxy
            have cR9 := cellH R9
            have fR9 := frozH R9
            clear RB9 St9 IB9 AB9 SB9
            gi_wp2_with fail
            refine ⟨trivial, ?_⟩
            gi_wp2_with fail
            exact ⟨OnlyL.from (L := [w.heap.size + 1]) (OnlyL.setCell hoW (.inl (List.mem_singleton.2 rfl)) _) _ HCL.out, .inl (fun h => HXY.out (prefix_day h HP.out))⟩
        case done1 =>
          intro D1 xs W hD1 hxs hI hK
          rw [hxs] at hI
          obtain ⟨i1, i4, i2, i3⟩ := hI
          rw [HDL.out] at i1
          subst ha
          have zq := i2.size
          have St8 : Hid (W.heap[w.heap.size]? = some (.cells #[.int .i64 stop] 3 (0, 0))) := (i2.block _ l7St).trans St7.out
          have R8 : Hid (W.heap[w.heap.size + 1]? = some (.cells #[.bool false] 4 (0, 0))) := (i2.block _ l7R).trans R7.out
          have SB8 : Hid (W.heap[sb]? = some (.cells #[.slice A3 r.length c3] 77 (0, 0))) := (i2.block _ l7S).trans SB7.out
          have BX8 : Hid (W.heap[Bx]? = some (.cells #[.slice A3 r.length c3] 77 (0, 0))) := (i2.block _ l7B).trans BX7.out
          have RB8 : Hid (W.heap[rb9]? = some (.cells #[.int .i64 1] 3 (0, 0))) := (i2.block _ l7RB).trans RB7.out
          have HKD := Lib.hid hK
          have hw8 : Below w.heap.size w W := hw7.trans (i2.mono zw6)
          have hx8 : Below w2.heap.size w2 W := hx7.trans (i2.mono zx6)
          have KD08 := Lib.hid ((i2.block _ (by have := lD0; omega)).trans KD07.out)
          have IB8 : Hid (W.heap[ib]? = some (.cells #[.int .i64 DL] 3 (0, 0))) := i1
          have e6 : ((DL : Int) != (DL : Int)) = false := bne_self_eq_false _
          clear i1 i2 i3 i4 hK hxs
          have xI : W.cell? ⟨ib, 0, none⟩ = some (.int .i64 DL) := cellH IB8 0
          have xS : W.cell? ⟨sb, 0, none⟩ = some (.slice A3 r.length c3) := cellH SB8 0
          have xR : W.cell? ⟨rb9, 0, none⟩ = some (.int .i64 1) := cellH RB8 0
          have xT : W.cell? ⟨w.heap.size, 0, none⟩ = some (.int .i64 stop) := cellH St8 0
          gi_wp2_with fail
          refine (wpIn_wide (n := 3)).2 ?_
          refine wp_onlyN ?_
          refine wp_region_held_drew (S := fun w' => w'.cell? ⟨ib, 0, none⟩ = some (.int .i64 DL) ∧ w'.cell? ⟨sb, 0, none⟩ = some (.slice A3 r.length c3) ∧ w'.cell? ⟨rb9, 0, none⟩ = some (.int .i64 1) ∧ w'.cell? ⟨w.heap.size, 0, none⟩ = some (.int .i64 stop)) (by kernel_rfl) ?_ (fun hH0 => ?_)
          · exact ⟨xI, xS, xR, xT⟩
          refine wpAnyH_take (i := 0) (oi := { dst := some 76, op := Go.Op.load 3 (Go.Operand.tmp 10), type := 3, pos := "law.go:182", after := #[], guard := none }) (v := ?_) rfl (by kernel_rfl) (by kernel_rfl) (by kernel_rfl) (fun _ _ _ h => h) (Or.inl ⟨by rfl, ?_⟩) (by assumption) ?_
          rotate_left
          · intro wq hSw; (try dsimp only at hSw); go_simp; (try with_reducible rfl)
          try simp only [Act.put, List.setIfInBounds_toArray, List.set_cons_zero, List.set_cons_succ]
          refine wpAnyH_take (i := 1) (oi := { dst := some 77, op := Go.Op.load 77 (Go.Operand.tmp 6), type := 77, pos := "law.go:182", after := #[], guard := none }) (v := ?_) rfl (by kernel_rfl) (by kernel_rfl) (by kernel_rfl) (fun _ _ _ h => h) (Or.inl ⟨by rfl, ?_⟩) (by assumption) ?_
          rotate_left
          · intro wq hSw; (try dsimp only at hSw); go_simp; (try with_reducible rfl)
          try simp only [Act.put, List.setIfInBounds_toArray, List.set_cons_zero, List.set_cons_succ]
          refine wpAnyH_ready (rs := [2]) (by kernel_rfl) (by simp) ?_
          refine AllReadyH.cons (o := { dst := some 78, op := Go.Op.call { callee := Go.Callee.value (Go.Operand.func 60), args := #[Go.Operand.tmp 77], argTypes := #[77] }, type := 3, pos := "law.go:182", after := #[{ on := 1, ground := Go.Ground.data }], guard := none }) rfl (fun K hK => ?_) ?_
          rotate_left
          · exact AllReadyH.nil
          go_simp
          refine (lenS_any r A3 c3 _ (moved HROW.out hx8.drew) (by omega) CS.out).mono ?_
          rw [HLEN.out]
          rintro e wv ⟨rfl, hb2⟩
          replace hx8 : Below w2.heap.size w2 wv := stepH hx8.drew hb2
          replace hw8 : Below w.heap.size w wv := stepH hw8.drew hb2
          replace St8 := keepH hb2 (drew_old St8.out)
          replace R8 := keepH hb2 (drew_old R8.out)
          replace SB8 := keepH hb2 (drew_old SB8.out)
          replace BX8 := keepH hb2 (drew_old BX8.out)
          replace RB8 := keepH hb2 (drew_old RB8.out)
          replace HKD := keepH hb2 (drew_old HKD.out)
          replace KD08 := keepH hb2 (drew_old KD08.out)
          replace xI : wv.cell? ⟨ib, 0, none⟩ = some (.int .i64 DL) := cellOf hb2 (cell_drew xI)
          replace xS : wv.cell? ⟨sb, 0, none⟩ = some (.slice A3 r.length c3) := cellOf hb2 (cell_drew xS)
          replace xR : wv.cell? ⟨rb9, 0, none⟩ = some (.int .i64 1) := cellOf hb2 (cell_drew xR)
          replace xT : wv.cell? ⟨w.heap.size, 0, none⟩ = some (.int .i64 stop) := cellOf hb2 (cell_drew xT)
          have zq2 := hb2.size
          clear hb2
          go_wp2_with fail
          refine hK.out _ _ ?_ (fun hH1 => ?_)
          · (try dsimp only); exact ⟨xI, xS, xR, xT⟩
          clear hK K
          clear hH0
          try simp only [Act.put, List.setIfInBounds_toArray, List.set_cons_zero, List.set_cons_succ]
          refine wpAnyH_take (i := 3) (oi := { dst := some 79, op := Go.Op.binOp Go.BinOp.neq 3 (Go.Operand.tmp 76) (Go.Operand.tmp 78) 3, type := 4, pos := "law.go:182", after := #[{ on := 0, ground := Go.Ground.data }, { on := 2, ground := Go.Ground.data }], guard := none }) (v := ?_) rfl (by kernel_rfl) (by kernel_rfl) (by kernel_rfl) (fun _ _ _ h => h) (Or.inl ⟨by rfl, ?_⟩) (by assumption) ?_
          rotate_left
          · intro wq hSw; (try dsimp only at hSw); go_simp; (try with_reducible rfl)
          try simp only [Act.put, List.setIfInBounds_toArray, List.set_cons_zero, List.set_cons_succ]
          refine wpAnyH_take (i := 4) (oi := { dst := some 80, op := Go.Op.move (Go.Operand.tmp 79), type := 4, pos := "law.go:182", after := #[{ on := 3, ground := Go.Ground.data }, { on := 2, ground := Go.Ground.chain }], guard := none }) (v := ?_) rfl (by kernel_rfl) (by kernel_rfl) (by kernel_rfl) (fun _ _ _ h => h) (Or.inl ⟨by rfl, ?_⟩) (by assumption) ?_
          rotate_left
          · intro wq hSw; (try dsimp only at hSw); go_simp; (try with_reducible rfl)
          try simp only [Act.put, List.setIfInBounds_toArray, List.set_cons_zero, List.set_cons_succ]
          refine wpAnyH_take (i := 5) (oi := { dst := some 81, op := Go.Op.load 3 (Go.Operand.tmp 9), type := 3, pos := "law.go:182", after := #[{ on := 4, ground := Go.Ground.guard }], guard := some (4, true) }) (v := undef) rfl (by kernel_rfl) (by kernel_rfl) (by kernel_rfl) (fun _ _ _ h => h) (Or.inr ⟨by rfl, rfl⟩) (by assumption) ?_
          try simp only [Act.put, List.setIfInBounds_toArray, List.set_cons_zero, List.set_cons_succ]
          refine wpAnyH_take (i := 6) (oi := { dst := some 82, op := Go.Op.binOp Go.BinOp.eql 3 (Go.Operand.tmp 81) (Go.Operand.const (Go.Value.int Go.IntKind.i64 0)) 3, type := 4, pos := "law.go:182", after := #[{ on := 5, ground := Go.Ground.data }, { on := 4, ground := Go.Ground.guard }], guard := some (4, true) }) (v := undef) rfl (by kernel_rfl) (by kernel_rfl) (by kernel_rfl) (fun _ _ _ h => h) (Or.inr ⟨by rfl, rfl⟩) (by assumption) ?_
          try simp only [Act.put, List.setIfInBounds_toArray, List.set_cons_zero, List.set_cons_succ]
          refine wpAnyH_take (i := 7) (oi := { dst := some 83, op := Go.Op.move (Go.Operand.tmp 82), type := 4, pos := "law.go:182", after := #[{ on := 6, ground := Go.Ground.data }, { on := 4, ground := Go.Ground.chain }, { on := 4, ground := Go.Ground.guard }], guard := some (4, true) }) (v := undef) rfl (by kernel_rfl) (by kernel_rfl) (by kernel_rfl) (fun _ _ _ h => h) (Or.inr ⟨by rfl, rfl⟩) (by assumption) ?_
          try simp only [Act.put, List.setIfInBounds_toArray, List.set_cons_zero, List.set_cons_succ]
          refine wpAnyH_take (i := 8) (oi := { dst := some 84, op := Go.Op.load 3 (Go.Operand.tmp 10), type := 3, pos := "law.go:182", after := #[{ on := 7, ground := Go.Ground.guard }], guard := some (7, true) }) (v := undef) rfl (by kernel_rfl) (by kernel_rfl) (by kernel_rfl) (fun _ _ _ h => h) (Or.inr ⟨by rfl, rfl⟩) (by assumption) ?_
          try simp only [Act.put, List.setIfInBounds_toArray, List.set_cons_zero, List.set_cons_succ]
          refine wpAnyH_take (i := 9) (oi := { dst := some 85, op := Go.Op.load 3 (Go.Operand.tmp 3), type := 3, pos := "law.go:182", after := #[{ on := 7, ground := Go.Ground.guard }], guard := some (7, true) }) (v := undef) rfl (by kernel_rfl) (by kernel_rfl) (by kernel_rfl) (fun _ _ _ h => h) (Or.inr ⟨by rfl, rfl⟩) (by assumption) ?_
          try simp only [Act.put, List.setIfInBounds_toArray, List.set_cons_zero, List.set_cons_succ]
          refine wpAnyH_take (i := 10) (oi := { dst := some 86, op := Go.Op.binOp Go.BinOp.eql 3 (Go.Operand.tmp 84) (Go.Operand.tmp 85) 3, type := 4, pos := "law.go:182", after := #[{ on := 8, ground := Go.Ground.data }, { on := 9, ground := Go.Ground.data }, { on := 7, ground := Go.Ground.guard }], guard := some (7, true) }) (v := undef) rfl (by kernel_rfl) (by kernel_rfl) (by kernel_rfl) (fun _ _ _ h => h) (Or.inr ⟨by rfl, rfl⟩) (by assumption) ?_
          try simp only [Act.put, List.setIfInBounds_toArray, List.set_cons_zero, List.set_cons_succ]
          refine wpAnyH_take (i := 11) (oi := { dst := some 87, op := Go.Op.pick (Go.Operand.tmp 83) (Go.Operand.tmp 86) (Go.Operand.const (Go.Value.bool false)), type := 4, pos := "law.go:182", after := #[{ on := 7, ground := Go.Ground.data }, { on := 10, ground := Go.Ground.data }, { on := 4, ground := Go.Ground.guard }], guard := some (4, true) }) (v := undef) rfl (by kernel_rfl) (by kernel_rfl) (by kernel_rfl) (fun _ _ _ h => h) (Or.inr ⟨by rfl, rfl⟩) (by assumption) ?_
          try simp only [Act.put, List.setIfInBounds_toArray, List.set_cons_zero, List.set_cons_succ]
          refine wpAnyH_take (i := 12) (oi := { dst := some 88, op := Go.Op.unOp Go.UnOp.not 4 (Go.Operand.tmp 87), type := 4, pos := "law.go:182", after := #[{ on := 11, ground := Go.Ground.data }, { on := 4, ground := Go.Ground.guard }], guard := some (4, true) }) (v := undef) rfl (by kernel_rfl) (by kernel_rfl) (by kernel_rfl) (fun _ _ _ h => h) (Or.inr ⟨by rfl, rfl⟩) (by assumption) ?_
          try simp only [Act.put, List.setIfInBounds_toArray, List.set_cons_zero, List.set_cons_succ]
          refine wpAnyH_take (i := 13) (oi := { dst := some 89, op := Go.Op.pick (Go.Operand.tmp 80) (Go.Operand.tmp 88) (Go.Operand.const (Go.Value.bool false)), type := 4, pos := "law.go:182", after := #[{ on := 4, ground := Go.Ground.data }, { on := 12, ground := Go.Ground.data }], guard := none }) (v := ?_) rfl (by kernel_rfl) (by kernel_rfl) (by kernel_rfl) (fun _ _ _ h => h) (Or.inl ⟨by rfl, ?_⟩) (by assumption) ?_
          rotate_left
          · intro wq hSw; (try dsimp only at hSw); go_simp; (try with_reducible rfl)
          try simp only [Act.put, List.setIfInBounds_toArray, List.set_cons_zero, List.set_cons_succ]
          refine wpAnyH_done (by kernel_rfl) ?_ _
          refine onlyN_normal ?_
          clear xI xS xR xT
          have cRB := cellH RB8
          gi_wp2_with fail
          clear e6 IB8
          have RB9 : Hid ((wv.alloc (.cells #[.int .i64 2] 3)).heap[wv.heap.size]? = some (.cells #[.int .i64 2] 3 (0, 0))) := blk_new rfl
          have St6 := Lib.hid (blk_old (o := .cells #[.int .i64 2] 3) St8.out)
          have R6 := Lib.hid (blk_old (o := .cells #[.int .i64 2] 3) R8.out)
          have SB6 := Lib.hid (blk_old (o := .cells #[.int .i64 2] 3) SB8.out)
          have BX6 := Lib.hid (blk_old (o := .cells #[.int .i64 2] 3) BX8.out)
          have KD1 := Lib.hid (blk_old (o := .cells #[.int .i64 2] 3) HKD.out)
          have KD0b := Lib.hid (blk_old (o := .cells #[.int .i64 2] 3) KD08.out)
          have zw8 := hw8.size
          have zx8 := hx8.size
          have hw6 : Below w.heap.size w (wv.alloc (.cells #[.int .i64 2] 3)) := by (repeat' (first | with_reducible exact Below.refl _ _ | with_reducible assumption | with_reducible refine Below.drew ?_ | with_reducible refine below_drewN ?_ _ | with_reducible refine Below.setCell ?_ ?_ _ | with_reducible refine Below.alloc ?_ ?_ _ | omega | (simp; done) | (simp; omega)))
          have hx6 : Below w2.heap.size w2 (wv.alloc (.cells #[.int .i64 2] 3)) := by (repeat' (first | with_reducible exact Below.refl _ _ | with_reducible assumption | with_reducible refine Below.drew ?_ | with_reducible refine below_drewN ?_ _ | with_reducible refine Below.setCell ?_ ?_ _ | with_reducible refine Below.alloc ?_ ?_ _ | omega | (simp; done) | (simp; omega)))
          obtain ⟨rb9, hrb⟩ : ∃ rb9, wv.heap.size = rb9 := ⟨_, rfl⟩
          clear St8 R8 SB8 BX8 RB8 HKD hw8 hx8 cRB St7 R7 SB7 BX7 RB7 IB7 AB7 hw7 hx7 HA7
          generalize (wv.alloc (.cells #[.int .i64 2] 3)) = w69 at *
          rw [hrb] at RB9 ⊢
          rw [hrb] at zw8 zx8 zq2
          clear hrb
          have cRB := cellH RB9
          have cS6 := cellH SB6
          have cR := cellH R6
          have fzR := frozH R6
          rw [roundsIn_succ]
          gi_wp2_with fail

          have k1 : (w69.setCell ⟨w.heap.size + 1, 0, none⟩ (.bool true)).heap[D1]? = some (.deferred (some [])) := (KeepsOthers.setCell _ _ _).same D1 _ KD1.out rfl
          have k0 : ((w69.setCell ⟨w.heap.size + 1, 0, none⟩ (.bool true)).putObj D1 (.deferred none)).heap[D0]? = some (.deferred (some [])) := (World.putObj_heap_other (by omega)).trans ((KeepsOthers.setCell _ _ _).same D0 _ KD0b.out rfl)
          have HR : Hid ((((w69.setCell ⟨w.heap.size + 1, 0, none⟩ (.bool true)).putObj D1 (.deferred none)).putObj D0 (.deferred none)).heap[w.heap.size + 1]? = some (.cells #[.bool true] 4 (0, 0))) := (World.putObj_heap_other (by omega)).trans ((World.putObj_heap_other (by omega)).trans (setBox R6.out _))
          have hB : Below w.heap.size w (((w69.setCell ⟨w.heap.size + 1, 0, none⟩ (.bool true)).putObj D1 (.deferred none)).putObj D0 (.deferred none)) := Below.trans (Below.trans (hw6.setCell (by simp) _) (belowK_b (w := w) (Nat.le_refl _) _ D1 _ _ (by omega) k1 rfl rfl)) (belowK_b (w := w) (Nat.le_refl _) _ D0 _ _ (by omega) k0 rfl rfl)
          refine ⟨by simp, .inl ⟨_, _, rfl, run_takeDeferred k1, ⟨by simp, .inl ⟨_, _, rfl, run_takeDeferred k0, ?_⟩⟩⟩⟩
          clear k1 k0
          generalize (((w69.setCell ⟨w.heap.size + 1, 0, none⟩ (.bool true)).putObj D1 (.deferred none)).putObj D0 (.deferred none)) = wz at HR hB ⊢
          have c4 := cellH HR
          exact ⟨_, (by simp [results, Tryd.results9, go_sem, c4]), rfl, hB⟩

        case stop1 =>
          rintro D1 c pre W hD hpre hX hK
          rcases hX with h | ⟨h1, _, _⟩
          · exact absurd hpre h
          · omega


set_option maxRecDepth 100000 in
theorem dayEach_walk (l : List (Pc Unit)) (A : Option Addr) (c : Nat) (stop : Int) (E : Nat → Addr) (w : World) (hl : RowAt encU 2 w w.heap.size A l) (hT : Tabs w) (hE : Env LD E w) :
    Calls Tryd.prog 9 #[.slice A l.length c, .int .i64 stop] w fun e w' => e = .returned (.bool true) ∧ Below w.heap.size w w' := by
  by_cases h1 : 300 < l.length
  · exact dayEach_x l A c stop w hT h1
  · by_cases hv : ∀ p ∈ l, ValidS MD p
    · exact dayEach_g l A c stop w hl hT (by omega) hv
    · exact dayEach_a l A c stop E w hl hT hE (by omega) (Classical.byContradiction fun h => hv fun p hp => Classical.byContradiction fun hn => h ⟨p, hp, hn⟩)

end Go.Proofs.YthgdjocoiniphaaDoor
