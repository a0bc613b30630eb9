/- The walk of LineAll. -/
import Derived.Test.YthgdjocoiniphaaDoorLineS
import Derived.Test.YthgdjocoiniphaaDoorInRound
import Derived.Deep.DeepCutAuto
namespace Go.Proofs.YthgdjocoiniphaaDoor
open Go.RowKit Go.Shelf
attribute [local go_sem] Oper.semAt_some

/-- what holds behind some rounds: the count, and all that lies ahead of it -/
def LiI (r : List (Pc Int)) (ib : Nat) (w7 : World) (pre : List (Pc Int)) (W : World) : Prop := W.heap[ib]? = some (.cells #[.int .i64 pre.length] 3 (0, 0)) ∧ Below ib w7 W ∧ pre = r.take pre.length
/-- .. where the loop is left -/
def LiX (r : List (Pc Int)) (ib : Nat) (w7 : World) (stop : Int) (c : Code) (pre : List (Pc Int)) (W : World) : Prop := ¬ pre <+: r ∨ ((pre.length : Int) = stop ∧ c = .exit 2 ∧ LiI r ib w7 pre W)
theorem LiI_own {r : List (Pc Int)} {ib B : Nat} {w7 : World} (h1 : ib ≤ w7.heap.size) (h2 : w7.heap.size ≤ B) : OwnFrom B (LiI r ib w7) := fun _ W W' row hs hg hr =>
  ⟨ownBlk hs.1 hg hr, Below.grown hs.2.1 hg (by have := hs.2.1.size; omega) (fun k e => by have := (hr k e).1; omega), hs.2.2⟩
theorem LiX_own {r : List (Pc Int)} {ib B : Nat} {w7 : World} {stop : Int} (c : Code) (h1 : ib ≤ w7.heap.size) (h2 : w7.heap.size ≤ B) : OwnFrom B (LiX r ib w7 stop c) := fun s W W' row hs hg hr => by
  rcases hs with h | ⟨h3, h4, h5⟩
  · exact .inl h
  · exact .inr ⟨h3, h4, LiI_own h1 h2 s W W' row h5 hg hr⟩

theorem prefix_at {r pre : List (Pc Int)} {x p : Pc Int} (h : (pre ++ [x]) <+: r) (hp : r[pre.length]? = some p) : x = p := by
  obtain ⟨t, rfl⟩ := h
  rw [List.append_assoc, List.getElem?_append_right (Nat.le_refl _), Nat.sub_self] at hp
  exact Option.some.inj hp

theorem sameSpan_any (f t f' t' : Int) (w : World) (b : Bool) (hb : (f == f' && t == t') = b) : Calls Tryd.prog 38 #[.agg #[.int .i64 f, .int .i64 t], .agg #[.int .i64 f', .int .i64 t']] w fun e w' => e = .returned (.bool b) ∧ Below w.heap.size w w' := by
  subst hb
  cases h1 : (f == f') with
  | true =>
    go_enter Tryd.func38, Tryd.ntmps38
    go_wp2_with fail
    go_ret
    exact ⟨rfl, by (repeat' (first | with_reducible exact Below.refl _ _ | with_reducible assumption | with_reducible refine Below.drew ?_ | with_reducible refine below_drewN ?_ _ | with_reducible refine Below.setCell ?_ ?_ _ | with_reducible refine Below.alloc ?_ ?_ _ | omega | (simp; done) | (simp; omega)))⟩
  | false =>
    go_enter Tryd.func38, Tryd.ntmps38
    go_wp2_with fail
    go_ret
    exact ⟨rfl, by (repeat' (first | with_reducible exact Below.refl _ _ | with_reducible assumption | with_reducible refine Below.drew ?_ | with_reducible refine below_drewN ?_ _ | with_reducible refine Below.setCell ?_ ?_ _ | with_reducible refine Below.alloc ?_ ?_ _ | omega | (simp; done) | (simp; omega)))⟩

set_option maxRecDepth 100000 in
set_option maxHeartbeats 16000000 in
theorem lineAll_good (l : List (Pc Int)) (A : Option Addr) (c : Nat) (stop : Int) (w : World) (hl : RowAt encP 3 w w.heap.size A l) (h3 : l.length ≤ 200) (hv : ∀ p ∈ l, ValidP MD p) :
    Calls Tryd.prog 5 #[.slice A l.length c, .int .i64 stop] w fun e w' => e = .returned (.bool true) ∧ Below w.heap.size w w' := by
  have HL := Lib.hid hl
  have HV := Lib.hid hv
  have hd : decide ((200 : Int) < (l.length : Int)) = false := decide_eq_false (by omega)
  have hfn := funNil6 (.func 98)
  clear hl hv
  refine (callsIn_wide (n := 3)).1 ?_; refine callsIn_of_wp_marks Tryd.func5 rfl trivial ?_ rfl; simp only [Tryd.ntmps5, List.size_toArray, List.length_cons, List.length_nil, Nat.reduceAdd, Nat.reduceSub, Array.replicate_succ, Array.replicate_zero, List.push_toArray, List.append_toArray, List.nil_append, List.cons_append]
  gi_wp2_with fail
  first | refine wide_open ?_ | refine wide_open2 ?_
  refine (first6_any _).mono ?_
  rintro e w1 ⟨rfl, hb1⟩
  have hw1 : Below w.heap.size w w1 := stepH (by (repeat' (first | with_reducible exact Below.refl _ _ | with_reducible assumption | with_reducible refine Below.drew ?_ | with_reducible refine below_drewN ?_ _ | with_reducible refine Below.setCell ?_ ?_ _ | with_reducible refine Below.alloc ?_ ?_ _ | omega | (simp; done) | (simp; omega)))) hb1
  have St := keepH hb1 (g := w.heap.size) (blk_old (blk_new rfl))
  have R := keepH hb1 (g := w.heap.size + 1) (blk_new (by simp))
  clear hb1
  gi_wp2_with fail
  first | refine wide_open ?_ | refine wide_open2 ?_
  refine (piecesL_any l A c _ ((HL.out.below (by (repeat' (first | with_reducible exact Below.refl _ _ | with_reducible assumption | with_reducible refine Below.drew ?_ | with_reducible refine below_drewN ?_ _ | with_reducible refine Below.setCell ?_ ?_ _ | with_reducible refine Below.alloc ?_ ?_ _ | omega | (simp; done) | (simp; omega)))) (Nat.le_refl _)).more hw1.size) (by omega)).mono ?_
  rintro e w2 ⟨⟨A2, c2, rfl, hrow2⟩, hb2⟩
  have hw2 : Below w.heap.size w w2 := stepH (by (repeat' (first | with_reducible exact Below.refl _ _ | with_reducible assumption | with_reducible refine Below.drew ?_ | with_reducible refine below_drewN ?_ _ | with_reducible refine Below.setCell ?_ ?_ _ | with_reducible refine Below.alloc ?_ ?_ _ | omega | (simp; done) | (simp; omega)))) hb2
  replace St := keepH hb2 St.out
  replace R := keepH hb2 R.out
  clear hb2 hw1
  gi_wp2_with fail
  first | refine wide_open ?_ | refine wide_open2 ?_
  refine (make6_ok l A2 c2 _ hrow2 (by omega) HV.out).mono ?_
  rintro e w3 ⟨⟨A3, c3, r, rfl, hrow3, hA3, hmade⟩, hb3⟩
  have hw3 : Below w.heap.size w w3 := stepH (by (repeat' (first | with_reducible exact Below.refl _ _ | with_reducible assumption | with_reducible refine Below.drew ?_ | with_reducible refine below_drewN ?_ _ | with_reducible refine Below.setCell ?_ ?_ _ | with_reducible refine Below.alloc ?_ ?_ _ | omega | (simp; done) | (simp; omega)))) hb3
  replace St := keepH hb3 St.out
  replace R := keepH hb3 R.out
  have z3 := hw3.size
  have hrl : r.length ≤ 400 := by have h := hmade.len; omega
  have HROW := Lib.hid hrow3
  have HA3 := Lib.hid hA3
  clear hb3 hw2 hrow3 hrow2 hA3 hmade
  gi_wp2_with fail
  first | refine wide_open ?_ | refine wide_open2 ?_
  refine (pieces6_any r A3 c3 _ ((HROW.out.below (by (repeat' (first | with_reducible exact Below.refl _ _ | with_reducible assumption | with_reducible refine Below.drew ?_ | with_reducible refine below_drewN ?_ _ | with_reducible refine Below.setCell ?_ ?_ _ | with_reducible refine Below.alloc ?_ ?_ _ | omega | (simp; done) | (simp; omega)))) (Nat.le_refl _)).more (by simp)) (by omega) HA3.out).mono ?_
  rintro e w4 ⟨v, rfl, hown, hb4⟩
  obtain ⟨A5, c5, rfl, hr5, _, _⟩ := own_line (fun x _ => encP_len x) hown
  have hw4 : Below w.heap.size w w4 := stepH (by (repeat' (first | with_reducible exact Below.refl _ _ | with_reducible assumption | with_reducible refine Below.drew ?_ | with_reducible refine below_drewN ?_ _ | with_reducible refine Below.setCell ?_ ?_ _ | with_reducible refine Below.alloc ?_ ?_ _ | omega | (simp; done) | (simp; omega)))) hb4
  have hv4 : Below w3.heap.size w3 w4 := stepH (by (repeat' (first | with_reducible exact Below.refl _ _ | with_reducible assumption | with_reducible refine Below.drew ?_ | with_reducible refine below_drewN ?_ _ | with_reducible refine Below.setCell ?_ ?_ _ | with_reducible refine Below.alloc ?_ ?_ _ | omega | (simp; done) | (simp; omega)))) hb4
  have z4 := hw4.size
  replace St := keepH hb4 (blk_old St.out)
  replace R := keepH hb4 (blk_old R.out)
  have TB := keepH hb4 (g := w3.heap.size) (blk_new rfl)
  have cT := cellH TB
  have HR5 := Lib.hid hr5
  have lT := lt_of_H TB
  clear hb4 hown hr5
  gi_wp2_with fail
  first | refine wide_open ?_ | refine wide_open2 ?_
  refine (all6_any A3 r.length c3 _).mono ?_
  rintro e w5 ⟨⟨Bx, rfl, hBx, hbox⟩, hb5⟩
  have hw5 : Below w.heap.size w w5 := stepH (by (repeat' (first | with_reducible exact Below.refl _ _ | with_reducible assumption | with_reducible refine Below.drew ?_ | with_reducible refine below_drewN ?_ _ | with_reducible refine Below.setCell ?_ ?_ _ | with_reducible refine Below.alloc ?_ ?_ _ | omega | (simp; done) | (simp; omega)))) hb5
  have hv5 : Below w4.heap.size w4 w5 := stepH (by (repeat' (first | with_reducible exact Below.refl _ _ | with_reducible assumption | with_reducible refine Below.drew ?_ | with_reducible refine below_drewN ?_ _ | with_reducible refine Below.setCell ?_ ?_ _ | with_reducible refine Below.alloc ?_ ?_ _ | omega | (simp; done) | (simp; omega)))) hb5
  have hx5 : Below w3.heap.size w3 w5 := hv4.trans (hv5.mono hv4.size)
  have z5 := hw5.size
  replace St := keepH hb5 (blk_old St.out)
  replace R := keepH hb5 (blk_old R.out)
  have PB := keepH hb5 (g := w4.heap.size) (blk_new rfl)
  have HBOX := hbox
  have lBx := lt_of_H HBOX
  have lPB := lt_of_H PB
  clear hb5 hbox TB cT
  gi_wp2_with fail
  have RB : Hid ((w5.alloc (.cells #[.int .i64 0] 3)).heap[w5.heap.size]? = some (.cells #[.int .i64 0] 3 (0, 0))) := blk_new rfl
  have St6 := Lib.hid (blk_old (o := .cells #[.int .i64 0] 3) St.out)
  have R6 := Lib.hid (blk_old (o := .cells #[.int .i64 0] 3) R.out)
  have PB6 := Lib.hid (blk_old (o := .cells #[.int .i64 0] 3) PB.out)
  have BX6 := Lib.hid (blk_old (o := .cells #[.int .i64 0] 3) HBOX.out)
  have hw6 : Below w.heap.size w (w5.alloc (.cells #[.int .i64 0] 3)) := by (repeat' (first | with_reducible exact Below.refl _ _ | with_reducible assumption | with_reducible refine Below.drew ?_ | with_reducible refine below_drewN ?_ _ | with_reducible refine Below.setCell ?_ ?_ _ | with_reducible refine Below.alloc ?_ ?_ _ | omega | (simp; done) | (simp; omega)))
  have hv6 : Below w4.heap.size w4 (w5.alloc (.cells #[.int .i64 0] 3)) := by (repeat' (first | with_reducible exact Below.refl _ _ | with_reducible assumption | with_reducible refine Below.drew ?_ | with_reducible refine below_drewN ?_ _ | with_reducible refine Below.setCell ?_ ?_ _ | with_reducible refine Below.alloc ?_ ?_ _ | omega | (simp; done) | (simp; omega)))
  have zv5 := hx5.size
  have hx6 : Below w3.heap.size w3 (w5.alloc (.cells #[.int .i64 0] 3)) := by (repeat' (first | with_reducible exact Below.refl _ _ | with_reducible assumption | with_reducible refine Below.drew ?_ | with_reducible refine below_drewN ?_ _ | with_reducible refine Below.setCell ?_ ?_ _ | with_reducible refine Below.alloc ?_ ?_ _ | omega | (simp; done) | (simp; omega)))
  have hu6 : w5.heap.size < (w5.alloc (.cells #[.int .i64 0] 3)).heap.size := by simp
  have zv4 := hv5.size
  obtain ⟨rb, hrb⟩ : ∃ rb, w5.heap.size = rb := ⟨_, rfl⟩
  have lSt := lt_of_H St
  have lR := lt_of_H R
  clear St R PB HBOX hw5 hv5 hx5 hv4
  generalize (w5.alloc (.cells #[.int .i64 0] 3)) = w6 at *
  rw [hrb] at RB hu6 lSt lR lBx lPB z5 zv4 zv5 ⊢
  clear hrb
  have cRB := cellH RB
  have cP := cellH PB6
  refine wpIn_loop_rounds 3 ?_
  rw [roundsIn_succ]
  gi_wp2_with fail
  have IB7 : Hid ((w6.alloc (.cells #[.int .i64 0] 3)).heap[w6.heap.size]? = some (.cells #[.int .i64 0] 3 (0, 0))) := blk_new rfl
  have St7 := Lib.hid (blk_old (o := .cells #[.int .i64 0] 3) St6.out)
  have R7 := Lib.hid (blk_old (o := .cells #[.int .i64 0] 3) R6.out)
  have PB7 := Lib.hid (blk_old (o := .cells #[.int .i64 0] 3) PB6.out)
  have BX7 := Lib.hid (blk_old (o := .cells #[.int .i64 0] 3) BX6.out)
  have RB7 := Lib.hid (blk_old (o := .cells #[.int .i64 0] 3) RB.out)
  have zw6 := hw6.size
  have zv6 := hv6.size
  have zx6 := hx6.size
  have hw7 : Below w.heap.size w (w6.alloc (.cells #[.int .i64 0] 3)) := by (repeat' (first | with_reducible exact Below.refl _ _ | with_reducible assumption | with_reducible refine Below.drew ?_ | with_reducible refine below_drewN ?_ _ | with_reducible refine Below.setCell ?_ ?_ _ | with_reducible refine Below.alloc ?_ ?_ _ | omega | (simp; done) | (simp; omega)))
  have hv7 : Below w4.heap.size w4 (w6.alloc (.cells #[.int .i64 0] 3)) := by (repeat' (first | with_reducible exact Below.refl _ _ | with_reducible assumption | with_reducible refine Below.drew ?_ | with_reducible refine below_drewN ?_ _ | with_reducible refine Below.setCell ?_ ?_ _ | with_reducible refine Below.alloc ?_ ?_ _ | omega | (simp; done) | (simp; omega)))
  have hx7 : Below w3.heap.size w3 (w6.alloc (.cells #[.int .i64 0] 3)) := by (repeat' (first | with_reducible exact Below.refl _ _ | with_reducible assumption | with_reducible refine Below.drew ?_ | with_reducible refine below_drewN ?_ _ | with_reducible refine Below.setCell ?_ ?_ _ | with_reducible refine Below.alloc ?_ ?_ _ | omega | (simp; done) | (simp; omega)))
  have hu7 : w6.heap.size < (w6.alloc (.cells #[.int .i64 0] 3)).heap.size := by simp
  have l7St := lt_of_H St6
  have l7R := lt_of_H R6
  have l7P := lt_of_H PB6
  have l7B := lt_of_H BX6
  have l7RB := lt_of_H RB
  obtain ⟨ib, hib⟩ : ∃ ib, w6.heap.size = ib := ⟨_, rfl⟩
  clear St6 R6 PB6 BX6 RB hw6 hv6 hx6 cRB cP
  generalize (w6.alloc (.cells #[.int .i64 0] 3)) = w7 at *
  rw [hib] at IB7 hu7 l7St l7R l7P l7B l7RB zw6 zv6 zx6 ⊢
  clear hib
  have HA7 : RowAt encP 3 w7 ib A3 r := (HROW.out.below hx7 (Nat.le_refl _)).more zx6
  generalize ha : Act.mk _ _ = a0
  refine wpIn_rangeFunc_ownH rfl (by decide) (gf := 98) (lb := #[.pointer (some ⟨Bx, 0, none⟩)]) (by rw [← ha]; rfl) trivial (enters_of Tryd.func98 (by kernel_rfl) rfl)
    (all1_stops r A3 c3 (by omega) (3 - 1) Bx ib l7B w7 (Nat.le_of_lt hu7) BX7 HA7)
    Below.trans (fun W l o o' hl h q1 q2 => (keepR_b (m := ib) (lo := 0) (hi := 0) (Nat.le_of_lt hu7) (Nat.zero_le _) W l o o' hl h q1 q2).below) (Below.refl _ _) (fun x => rfl)
    (LiI r ib w7) (LiX r ib w7 stop) (LiI_own (Nat.le_of_lt hu7) (Nat.le_refl _)) (fun c => LiX_own c (Nat.le_of_lt hu7) (Nat.le_refl _)) ⟨IB7.out, Below.refl _ _, rfl⟩
    (fun x a' W => ∃ Bp, w7.heap.size ≤ Bp ∧ W.heap[Bp]? = some (.cells #[.int .i64 x.f, .int .i64 x.t] 70 (0, 0)) ∧ a' = { tmps := (((a0.tmps.setIfInBounds 42 (.agg #[.int .i64 x.f, .int .i64 x.t])).setIfInBounds 43 (.int .i64 x.v)).setIfInBounds 12 (.pointer (some ⟨Bp, 0, none⟩))).setIfInBounds 13 (.int .i64 x.v), defers := [] })
    (fun x a' s W W' row hs hg hr => by obtain ⟨Bp, h2, h3, h4⟩ := hs; exact ⟨Bp, h2, ownBlk h3 hg hr, h4⟩) ?assign ?body ?done ?stop
  case assign =>
    intro l9 pre x W K hI hK
    obtain ⟨i1, i2, i3⟩ := hI
    have zz := i2.size
    subst ha
    simp only [encS]
    gi_wp2_with fail
    have h9 := hK _ _ ((KeepsOthers.alloc W (.cells #[.int .i64 x.f, .int .i64 x.t] 70)).from _) ((Below.refl _ _).alloc (by omega) _) ⟨blk_old i1, i2.alloc (by omega) _, i3⟩ ⟨_, zz, blk_new rfl, rfl⟩
    simp only [List.setIfInBounds_toArray, List.set_cons_zero, List.set_cons_succ] at h9
    exact h9
  case body =>
    rintro l9 pre x a' wq hl9 ⟨rr, hrr⟩ ⟨i1, i2, i3⟩ ⟨Bp, p2, p3, rfl⟩ hlt
    have zq := i2.size
    subst ha
    try simp only [List.setIfInBounds_toArray, List.set_cons_zero, List.set_cons_succ]
    have St8 : Hid (wq.heap[w.heap.size]? = some (.cells #[.int .i64 stop] 3 (0, 0))) := (i2.block _ l7St).trans St7.out
    have R8 : Hid (wq.heap[w.heap.size + 1]? = some (.cells #[.bool false] 4 (0, 0))) := (i2.block _ l7R).trans R7.out
    have PB8 : Hid (wq.heap[w4.heap.size]? = some (.cells #[.slice A5 r.length c5] 59 (0, 0))) := (i2.block _ l7P).trans PB7.out
    have RB8 : Hid (wq.heap[rb]? = some (.cells #[.int .i64 0] 3 (0, 0))) := (i2.block _ l7RB).trans RB7.out
    have IB8 : Hid (wq.heap[ib]? = some (.cells #[.int .i64 pre.length] 3 (0, 0))) := i1
    have P8 : Hid (wq.heap[Bp]? = some (.cells #[.int .i64 x.f, .int .i64 x.t] 70 (0, 0))) := p3
    obtain ⟨p, hp⟩ : ∃ p, r[pre.length]? = some p := ⟨r[pre.length], List.getElem?_eq_getElem hlt⟩
    obtain ⟨g, off, hA5, hg, j0, j1, j2⟩ := cells3 ((HR5.out.below hv7 (Nat.le_refl _)).below i2 zv6) hp
    subst hA5
    have HP := Lib.hid hp
    have HI2 := Lib.hid i2
    have HI3 := Lib.hid i3
    have xP : wq.cell? ⟨w4.heap.size, 0, none⟩ = some (.slice (some ⟨g, off, none⟩) r.length c5) := cellH PB8 0
    have xI : wq.cell? ⟨ib, 0, none⟩ = some (.int .i64 pre.length) := cellH IB8 0
    have xB0 : wq.cell? ⟨Bp, 0, none⟩ = some (.int .i64 x.f) := cellH P8 0
    have xB1 : wq.cell? ⟨Bp, 1, none⟩ = some (.int .i64 x.t) := cellH P8 1
    have hlt2 : (pre.length : Int) < (r.length : Int) := by omega
    have k2 : (0 : Int) ≤ (pre.length : Int) := by omega
    have k6 : ((pre.length : Int)).toNat = pre.length := by omega
    have hge : decide (r.length ≤ pre.length) = false := decide_eq_false (by omega)
    have hBw := lt_of_H P8
    have zB := zw6
    clear hp i1 i2 i3 p3
    gi_upto_region 18 with fail
    have HCL : Hid (∀ k ∈ [w.heap.size + 1], ∃ cs t z, wq.heap[k]? = some (.cells cs t z)) := by
      intro k hk
      simp only [List.mem_cons, List.not_mem_nil, or_false] at hk
      subst hk
      exact ⟨_, _, _, R8.out⟩
    have HCI : Hid (∀ k ∈ [ib], ∃ cs t z, wq.heap[k]? = some (.cells cs t z)) := by
      intro k hk
      simp only [List.mem_cons, List.not_mem_nil, or_false] at hk
      subst hk
      exact ⟨_, _, _, IB8.out⟩
    by_cases hx1 : x.f = p.f ∧ x.t = p.t
    · obtain ⟨hxf, hxt⟩ := hx1
      have e0 : (x.f == p.f && x.t == p.t) = true := by simp [hxf, hxt]
      by_cases hxv : x.v = p.v
      · have e3 : (x.v != p.v) = false := by simp [hxv]
        have HXP : Hid (x = p) := by show x = p; cases x; cases p; simp_all
        clear hxf hxt hxv
        refine round_held_drew (S := fun w' => w'.cell? ⟨ib, 0, none⟩ = some (.int .i64 pre.length) ∧ w'.cell? ⟨w4.heap.size, 0, none⟩ = some (.slice (some ⟨g, off, none⟩) r.length c5) ∧ w'.cell? ⟨Bp, 0, none⟩ = some (.int .i64 x.f) ∧ w'.cell? ⟨Bp, 1, none⟩ = some (.int .i64 x.t) ∧ w'.cell? ⟨g, off + pre.length * 3, none⟩ = some (.int .i64 p.f) ∧ w'.cell? ⟨g, off + pre.length * 3 + 1, none⟩ = some (.int .i64 p.t) ∧ w'.cell? ⟨g, off + pre.length * 3 + 2, none⟩ = some (.int .i64 p.v)) (by kernel_rfl) (by kernel_rfl) ?_ (fun hH0 => ?_)
        · exact ⟨xI, xP, xB0, xB1, j0, j1, j2⟩
        refine wpAnyH_take (i := 0) (oi := { dst := some 44, op := Go.Op.load 3 (Go.Operand.tmp 11), type := 3, pos := "law.go:284", after := #[], guard := none }) (v := ?_) rfl (by kernel_rfl) (by kernel_rfl) (by kernel_rfl) (fun _ _ _ h => h) (Or.inl ⟨by rfl, ?_⟩) (by assumption) ?_
        rotate_left
        · intro wq hSw; (try dsimp only at hSw); go_simp; (try with_reducible rfl)
        try simp only [Act.put, List.setIfInBounds_toArray, List.set_cons_zero, List.set_cons_succ]
        refine wpAnyH_take (i := 1) (oi := { dst := some 45, op := Go.Op.load 59 (Go.Operand.tmp 8), type := 59, pos := "law.go:284", after := #[], guard := none }) (v := ?_) rfl (by kernel_rfl) (by kernel_rfl) (by kernel_rfl) (fun _ _ _ h => h) (Or.inl ⟨by rfl, ?_⟩) (by assumption) ?_
        rotate_left
        · intro wq hSw; (try dsimp only at hSw); go_simp; (try with_reducible rfl)
        try simp only [Act.put, List.setIfInBounds_toArray, List.set_cons_zero, List.set_cons_succ]
        refine wpAnyH_take (i := 2) (oi := { dst := some 46, op := Go.Op.call { callee := Go.Callee.builtin Go.Builtin.len, args := #[Go.Operand.tmp 45], argTypes := #[59] }, type := 3, pos := "law.go:284", after := #[{ on := 1, ground := Go.Ground.data }], guard := none }) (v := ?_) rfl (by kernel_rfl) (by kernel_rfl) (by kernel_rfl) (fun _ _ _ h => h) (Or.inl ⟨by rfl, ?_⟩) (by assumption) ?_
        rotate_left
        · intro wq hSw; (try dsimp only at hSw); go_simp; (try with_reducible rfl)
        try simp only [Act.put, List.setIfInBounds_toArray, List.set_cons_zero, List.set_cons_succ]
        refine wpAnyH_take (i := 3) (oi := { dst := some 47, op := Go.Op.binOp Go.BinOp.geq 3 (Go.Operand.tmp 44) (Go.Operand.tmp 46) 3, type := 4, pos := "law.go:284", after := #[{ on := 0, ground := Go.Ground.data }, { on := 2, ground := Go.Ground.data }], guard := none }) (v := ?_) rfl (by kernel_rfl) (by kernel_rfl) (by kernel_rfl) (fun _ _ _ h => h) (Or.inl ⟨by rfl, ?_⟩) (by assumption) ?_
        rotate_left
        · intro wq hSw; (try dsimp only at hSw); go_simp; (try with_reducible rfl)
        try simp only [Act.put, List.setIfInBounds_toArray, List.set_cons_zero, List.set_cons_succ]
        refine wpAnyH_take (i := 4) (oi := { dst := some 48, op := Go.Op.move (Go.Operand.tmp 47), type := 4, pos := "law.go:284", after := #[{ on := 3, ground := Go.Ground.data }], guard := none }) (v := ?_) rfl (by kernel_rfl) (by kernel_rfl) (by kernel_rfl) (fun _ _ _ h => h) (Or.inl ⟨by rfl, ?_⟩) (by assumption) ?_
        rotate_left
        · intro wq hSw; (try dsimp only at hSw); go_simp; (try with_reducible rfl)
        try simp only [Act.put, List.setIfInBounds_toArray, List.set_cons_zero, List.set_cons_succ]
        refine wpAnyH_take (i := 5) (oi := { dst := some 49, op := Go.Op.load 70 (Go.Operand.tmp 12), type := 70, pos := "law.go:284", after := #[{ on := 4, ground := Go.Ground.guard }], guard := some (4, false) }) (v := ?_) rfl (by kernel_rfl) (by kernel_rfl) (by kernel_rfl) (fun _ _ _ h => h) (Or.inl ⟨by rfl, ?_⟩) (by assumption) ?_
        rotate_left
        · intro wq hSw; (try dsimp only at hSw); go_simp; (try with_reducible rfl)
        try simp only [Act.put, List.setIfInBounds_toArray, List.set_cons_zero, List.set_cons_succ]
        refine wpAnyH_take (i := 6) (oi := { dst := some 50, op := Go.Op.load 59 (Go.Operand.tmp 8), type := 59, pos := "law.go:284", after := #[{ on := 4, ground := Go.Ground.guard }], guard := some (4, false) }) (v := ?_) rfl (by kernel_rfl) (by kernel_rfl) (by kernel_rfl) (fun _ _ _ h => h) (Or.inl ⟨by rfl, ?_⟩) (by assumption) ?_
        rotate_left
        · intro wq hSw; (try dsimp only at hSw); go_simp; (try with_reducible rfl)
        try simp only [Act.put, List.setIfInBounds_toArray, List.set_cons_zero, List.set_cons_succ]
        refine wpAnyH_take (i := 7) (oi := { dst := some 51, op := Go.Op.load 3 (Go.Operand.tmp 11), type := 3, pos := "law.go:284", after := #[{ on := 4, ground := Go.Ground.guard }], guard := some (4, false) }) (v := ?_) rfl (by kernel_rfl) (by kernel_rfl) (by kernel_rfl) (fun _ _ _ h => h) (Or.inl ⟨by rfl, ?_⟩) (by assumption) ?_
        rotate_left
        · intro wq hSw; (try dsimp only at hSw); go_simp; (try with_reducible rfl)
        try simp only [Act.put, List.setIfInBounds_toArray, List.set_cons_zero, List.set_cons_succ]
        refine wpAnyH_take (i := 8) (oi := { dst := some 52, op := Go.Op.indexAddr 59 (Go.Operand.tmp 50) (Go.Operand.tmp 51), type := 0, pos := "law.go:284", after := #[{ on := 6, ground := Go.Ground.data }, { on := 7, ground := Go.Ground.data }, { on := 4, ground := Go.Ground.guard }], guard := some (4, false) }) (v := ?_) rfl (by kernel_rfl) (by kernel_rfl) (by kernel_rfl) (fun _ _ _ h => h) (Or.inl ⟨by rfl, ?_⟩) (by assumption) ?_
        rotate_left
        · intro wq hSw; (try dsimp only at hSw); go_simp; (try with_reducible rfl)
        try simp only [Act.put, List.setIfInBounds_toArray, List.set_cons_zero, List.set_cons_succ]
        refine wpAnyH_take (i := 9) (oi := { dst := some 53, op := Go.Op.fieldAddr 73 (Go.Operand.tmp 52) 0, type := 0, pos := "law.go:284", after := #[{ on := 8, ground := Go.Ground.data }, { on := 4, ground := Go.Ground.guard }], guard := some (4, false) }) (v := ?_) rfl (by kernel_rfl) (by kernel_rfl) (by kernel_rfl) (fun _ _ _ h => h) (Or.inl ⟨by rfl, ?_⟩) (by assumption) ?_
        rotate_left
        · intro wq hSw; (try dsimp only at hSw); go_simp; (try with_reducible rfl)
        try simp only [Act.put, List.setIfInBounds_toArray, List.set_cons_zero, List.set_cons_succ]
        refine wpAnyH_take (i := 10) (oi := { dst := some 54, op := Go.Op.load 70 (Go.Operand.tmp 53), type := 70, pos := "law.go:284", after := #[{ on := 9, ground := Go.Ground.data }, { on := 4, ground := Go.Ground.guard }], guard := some (4, false) }) (v := ?_) rfl (by kernel_rfl) (by kernel_rfl) (by kernel_rfl) (fun _ _ _ h => h) (Or.inl ⟨by rfl, ?_⟩) (by assumption) ?_
        rotate_left
        · intro wq hSw; (try dsimp only at hSw); go_simp; (try with_reducible rfl)
        try simp only [Act.put, List.setIfInBounds_toArray, List.set_cons_zero, List.set_cons_succ]
        refine wpAnyH_ready (rs := [11]) (by kernel_rfl) (by simp) ?_
        refine AllReadyH.cons (o := { dst := some 55, op := Go.Op.call { callee := Go.Callee.value (Go.Operand.func 38), args := #[Go.Operand.tmp 49, Go.Operand.tmp 54], argTypes := #[70, 70] }, type := 4, pos := "law.go:284", after := #[{ on := 5, ground := Go.Ground.data }, { on := 10, ground := Go.Ground.data }, { on := 4, ground := Go.Ground.chain }, { on := 4, ground := Go.Ground.guard }], guard := some (4, false) }) rfl (fun K hK => ?_) ?_
        rotate_left
        · exact AllReadyH.nil
        go_simp
        refine (sameSpan_any _ _ _ _ _ true (e0)).mono ?_
        rintro e w2 ⟨rfl, hb2⟩
        have hoI : OnlyL [ib] wq w2 := OnlyL.step (by (repeat' (first | with_reducible exact OnlyL.refl _ _ | with_reducible assumption | with_reducible refine OnlyL.drew ?_ | with_reducible refine OnlyL.drewN ?_ _ | with_reducible refine OnlyL.setCell ?_ ?_ _ | with_reducible refine OnlyL.alloc ?_ _ | omega | (simp; done) | (simp; omega)))) hb2
        have hoW : OnlyL [w.heap.size + 1] wq w2 := OnlyL.step (by (repeat' (first | with_reducible exact OnlyL.refl _ _ | with_reducible assumption | with_reducible refine OnlyL.drew ?_ | with_reducible refine OnlyL.drewN ?_ _ | with_reducible refine OnlyL.setCell ?_ ?_ _ | with_reducible refine OnlyL.alloc ?_ _ | omega | (simp; done) | (simp; omega)))) hb2
        replace xI : w2.cell? ⟨ib, 0, none⟩ = some (.int .i64 pre.length) := cellOf hb2 (cell_drew xI)
        replace xP : w2.cell? ⟨w4.heap.size, 0, none⟩ = some (.slice (some ⟨g, off, none⟩) r.length c5) := cellOf hb2 (cell_drew xP)
        replace xB0 : w2.cell? ⟨Bp, 0, none⟩ = some (.int .i64 x.f) := cellOf hb2 (cell_drew xB0)
        replace xB1 : w2.cell? ⟨Bp, 1, none⟩ = some (.int .i64 x.t) := cellOf hb2 (cell_drew xB1)
        replace j0 : w2.cell? ⟨g, off + pre.length * 3, none⟩ = some (.int .i64 p.f) := cellOf hb2 (cell_drew j0)
        replace j1 : w2.cell? ⟨g, off + pre.length * 3 + 1, none⟩ = some (.int .i64 p.t) := cellOf hb2 (cell_drew j1)
        replace j2 : w2.cell? ⟨g, off + pre.length * 3 + 2, none⟩ = some (.int .i64 p.v) := cellOf hb2 (cell_drew j2)
        have RB9 := keepH hb2 (drew_old RB8.out)
        have St9 := keepH hb2 (drew_old St8.out)
        have R9 := keepH hb2 (drew_old R8.out)
        have IB9 := keepH hb2 (drew_old IB8.out)
        go_wp2_with fail
        refine hK.out _ _ ?_ (fun hH1 => ?_)
        · (try dsimp only); exact ⟨xI, xP, xB0, xB1, j0, j1, j2⟩
        clear hK K
        clear hH0
        try simp only [Act.put, List.setIfInBounds_toArray, List.set_cons_zero, List.set_cons_succ]
        refine wpAnyH_take (i := 12) (oi := { dst := some 56, op := Go.Op.unOp Go.UnOp.not 4 (Go.Operand.tmp 55), type := 4, pos := "law.go:284", after := #[{ on := 11, ground := Go.Ground.data }, { on := 4, ground := Go.Ground.guard }], guard := some (4, false) }) (v := ?_) rfl (by kernel_rfl) (by kernel_rfl) (by kernel_rfl) (fun _ _ _ h => h) (Or.inl ⟨by rfl, ?_⟩) (by assumption) ?_
        rotate_left
        · intro wq hSw; (try dsimp only at hSw); go_simp; (try with_reducible rfl)
        try simp only [Act.put, List.setIfInBounds_toArray, List.set_cons_zero, List.set_cons_succ]
        refine wpAnyH_take (i := 13) (oi := { dst := some 57, op := Go.Op.pick (Go.Operand.tmp 48) (Go.Operand.const (Go.Value.bool true)) (Go.Operand.tmp 56), type := 4, pos := "law.go:284", after := #[{ on := 4, ground := Go.Ground.data }, { on := 12, ground := Go.Ground.data }], guard := none }) (v := ?_) rfl (by kernel_rfl) (by kernel_rfl) (by kernel_rfl) (fun _ _ _ h => h) (Or.inl ⟨by rfl, ?_⟩) (by assumption) ?_
        rotate_left
        · intro wq hSw; (try dsimp only at hSw); go_simp; (try with_reducible rfl)
        try simp only [Act.put, List.setIfInBounds_toArray, List.set_cons_zero, List.set_cons_succ]
        refine wpAnyH_take (i := 14) (oi := { dst := some 58, op := Go.Op.move (Go.Operand.tmp 57), type := 4, pos := "law.go:284", after := #[{ on := 13, ground := Go.Ground.data }, { on := 11, ground := Go.Ground.chain }], guard := none }) (v := ?_) rfl (by kernel_rfl) (by kernel_rfl) (by kernel_rfl) (fun _ _ _ h => h) (Or.inl ⟨by rfl, ?_⟩) (by assumption) ?_
        rotate_left
        · intro wq hSw; (try dsimp only at hSw); go_simp; (try with_reducible rfl)
        try simp only [Act.put, List.setIfInBounds_toArray, List.set_cons_zero, List.set_cons_succ]
        refine wpAnyH_take (i := 15) (oi := { dst := some 59, op := Go.Op.move (Go.Operand.tmp 13), type := 3, pos := "law.go:284", after := #[{ on := 14, ground := Go.Ground.guard }], guard := some (14, false) }) (v := ?_) rfl (by kernel_rfl) (by kernel_rfl) (by kernel_rfl) (fun _ _ _ h => h) (Or.inl ⟨by rfl, ?_⟩) (by assumption) ?_
        rotate_left
        · intro wq hSw; (try dsimp only at hSw); go_simp; (try with_reducible rfl)
        try simp only [Act.put, List.setIfInBounds_toArray, List.set_cons_zero, List.set_cons_succ]
        refine wpAnyH_take (i := 16) (oi := { dst := some 60, op := Go.Op.load 59 (Go.Operand.tmp 8), type := 59, pos := "law.go:284", after := #[{ on := 14, ground := Go.Ground.guard }], guard := some (14, false) }) (v := ?_) rfl (by kernel_rfl) (by kernel_rfl) (by kernel_rfl) (fun _ _ _ h => h) (Or.inl ⟨by rfl, ?_⟩) (by assumption) ?_
        rotate_left
        · intro wq hSw; (try dsimp only at hSw); go_simp; (try with_reducible rfl)
        try simp only [Act.put, List.setIfInBounds_toArray, List.set_cons_zero, List.set_cons_succ]
        refine wpAnyH_take (i := 17) (oi := { dst := some 61, op := Go.Op.load 3 (Go.Operand.tmp 11), type := 3, pos := "law.go:284", after := #[{ on := 14, ground := Go.Ground.guard }], guard := some (14, false) }) (v := ?_) rfl (by kernel_rfl) (by kernel_rfl) (by kernel_rfl) (fun _ _ _ h => h) (Or.inl ⟨by rfl, ?_⟩) (by assumption) ?_
        rotate_left
        · intro wq hSw; (try dsimp only at hSw); go_simp; (try with_reducible rfl)
        try simp only [Act.put, List.setIfInBounds_toArray, List.set_cons_zero, List.set_cons_succ]
        refine wpAnyH_take (i := 18) (oi := { dst := some 62, op := Go.Op.indexAddr 59 (Go.Operand.tmp 60) (Go.Operand.tmp 61), type := 0, pos := "law.go:284", after := #[{ on := 16, ground := Go.Ground.data }, { on := 17, ground := Go.Ground.data }, { on := 14, ground := Go.Ground.guard }], guard := some (14, false) }) (v := ?_) rfl (by kernel_rfl) (by kernel_rfl) (by kernel_rfl) (fun _ _ _ h => h) (Or.inl ⟨by rfl, ?_⟩) (by assumption) ?_
        rotate_left
        · intro wq hSw; (try dsimp only at hSw); go_simp; (try with_reducible rfl)
        try simp only [Act.put, List.setIfInBounds_toArray, List.set_cons_zero, List.set_cons_succ]
        refine wpAnyH_take (i := 19) (oi := { dst := some 63, op := Go.Op.fieldAddr 73 (Go.Operand.tmp 62) 1, type := 0, pos := "law.go:284", after := #[{ on := 18, ground := Go.Ground.data }, { on := 14, ground := Go.Ground.guard }], guard := some (14, false) }) (v := ?_) rfl (by kernel_rfl) (by kernel_rfl) (by kernel_rfl) (fun _ _ _ h => h) (Or.inl ⟨by rfl, ?_⟩) (by assumption) ?_
        rotate_left
        · intro wq hSw; (try dsimp only at hSw); go_simp; (try with_reducible rfl)
        try simp only [Act.put, List.setIfInBounds_toArray, List.set_cons_zero, List.set_cons_succ]
        refine wpAnyH_take (i := 20) (oi := { dst := some 64, op := Go.Op.load 3 (Go.Operand.tmp 63), type := 3, pos := "law.go:284", after := #[{ on := 19, ground := Go.Ground.data }, { on := 14, ground := Go.Ground.guard }], guard := some (14, false) }) (v := ?_) rfl (by kernel_rfl) (by kernel_rfl) (by kernel_rfl) (fun _ _ _ h => h) (Or.inl ⟨by rfl, ?_⟩) (by assumption) ?_
        rotate_left
        · intro wq hSw; (try dsimp only at hSw); go_simp; (try with_reducible rfl)
        try simp only [Act.put, List.setIfInBounds_toArray, List.set_cons_zero, List.set_cons_succ]
        refine wpAnyH_take (i := 21) (oi := { dst := some 65, op := Go.Op.binOp Go.BinOp.neq 3 (Go.Operand.tmp 59) (Go.Operand.tmp 64) 3, type := 4, pos := "law.go:284", after := #[{ on := 15, ground := Go.Ground.data }, { on := 20, ground := Go.Ground.data }, { on := 14, ground := Go.Ground.guard }], guard := some (14, false) }) (v := ?_) rfl (by kernel_rfl) (by kernel_rfl) (by kernel_rfl) (fun _ _ _ h => h) (Or.inl ⟨by rfl, ?_⟩) (by assumption) ?_
        rotate_left
        · intro wq hSw; (try dsimp only at hSw); go_simp; (try with_reducible rfl)
        try simp only [Act.put, List.setIfInBounds_toArray, List.set_cons_zero, List.set_cons_succ]
        refine wpAnyH_take (i := 22) (oi := { dst := some 66, op := Go.Op.pick (Go.Operand.tmp 58) (Go.Operand.const (Go.Value.bool true)) (Go.Operand.tmp 65), type := 4, pos := "law.go:284", after := #[{ on := 14, ground := Go.Ground.data }, { on := 21, ground := Go.Ground.data }], guard := none }) (v := ?_) rfl (by kernel_rfl) (by kernel_rfl) (by kernel_rfl) (fun _ _ _ h => h) (Or.inl ⟨by rfl, ?_⟩) (by assumption) ?_
        rotate_left
        · intro wq hSw; (try dsimp only at hSw); go_simp; (try with_reducible rfl)
        try simp only [Act.put, List.setIfInBounds_toArray, List.set_cons_zero, List.set_cons_succ]
        refine wpAnyH_done (by kernel_rfl) ?_ _
        refine noOut_normal ?_
        have hoI2 : OnlyL [ib] wq (w2.setCell ⟨ib, 0, none⟩ (.int .i64 ((pre.length : Int) + 1))) := OnlyL.setCell hoI (.inl (List.mem_singleton.2 rfl)) _
        have HLI : Hid (LiI r ib w7 (pre ++ [x]) (w2.setCell ⟨ib, 0, none⟩ (.int .i64 ((pre.length : Int) + 1)))) := by
          refine ⟨?_, HI2.out.trans (OnlyL.below hoI2 (by omega) (fun k hk => by rw [List.mem_singleton.1 hk]; exact Nat.le_refl _)), ?_⟩
          · rw [show ((pre ++ [x]).length : Int) = (pre.length : Int) + 1 by simp]
            exact setBox IB9.out _
          · rw [List.length_append, List.length_singleton, HXP.out, take_snoc HP.out, ← HI3.out]
        have HKF := Lib.hid (OnlyL.from hoI2 w7.heap.size HCI.out)
        have HKB := Lib.hid (OnlyL.below hoI2 (m := ib) (by omega) (fun k hk => by rw [List.mem_singleton.1 hk]; exact Nat.le_refl _))
        have cI9 := cellH IB9
        have fI9 := frozH IB9
        have cB9 := cellH RB9
        have cS9 := cellH St9
        have n1 : ib ≠ rb := by omega
        have n2 : ib ≠ w.heap.size := by omega
        have kw : IntKind.i64.wrap ((pre.length : Int) + 1) = (pre.length : Int) + 1 := by rw [IntKind.wrap_i64]; omega
        clear RB9 St9 IB9 R9 hH1 xI xP xB0 xB1 j0 j1 j2
        by_cases hst : (pre.length : Int) + 1 = stop
        · have e5 : ((pre.length : Int) + 1 == stop) = true := by simp [hst]
          have HST : Hid (((pre ++ [x]).length : Int) = stop) := by show _ = _; rw [← hst]; simp
          clear hst
          gi_wp2_with fail
          exact ⟨HKF.out, .inr ⟨HST.out, rfl, HLI.out⟩⟩
        · have e5 : ((pre.length : Int) + 1 == stop) = false := by simp [hst]
          clear hst
          gi_wp2_with fail
          exact ⟨HKF.out, HKB.out, HLI.out⟩
      · have e3 : (x.v != p.v) = true := by simp [hxv]
        have HXP : Hid (¬ x = p) := fun h => hxv (by rw [h])
        clear hxf hxt hxv
        refine round_held_drew (S := fun w' => w'.cell? ⟨ib, 0, none⟩ = some (.int .i64 pre.length) ∧ w'.cell? ⟨w4.heap.size, 0, none⟩ = some (.slice (some ⟨g, off, none⟩) r.length c5) ∧ w'.cell? ⟨Bp, 0, none⟩ = some (.int .i64 x.f) ∧ w'.cell? ⟨Bp, 1, none⟩ = some (.int .i64 x.t) ∧ w'.cell? ⟨g, off + pre.length * 3, none⟩ = some (.int .i64 p.f) ∧ w'.cell? ⟨g, off + pre.length * 3 + 1, none⟩ = some (.int .i64 p.t) ∧ w'.cell? ⟨g, off + pre.length * 3 + 2, none⟩ = some (.int .i64 p.v)) (by kernel_rfl) (by kernel_rfl) ?_ (fun hH0 => ?_)
        · exact ⟨xI, xP, xB0, xB1, j0, j1, j2⟩
        refine wpAnyH_take (i := 0) (oi := { dst := some 44, op := Go.Op.load 3 (Go.Operand.tmp 11), type := 3, pos := "law.go:284", after := #[], guard := none }) (v := ?_) rfl (by kernel_rfl) (by kernel_rfl) (by kernel_rfl) (fun _ _ _ h => h) (Or.inl ⟨by rfl, ?_⟩) (by assumption) ?_
        rotate_left
        · intro wq hSw; (try dsimp only at hSw); go_simp; (try with_reducible rfl)
        try simp only [Act.put, List.setIfInBounds_toArray, List.set_cons_zero, List.set_cons_succ]
        refine wpAnyH_take (i := 1) (oi := { dst := some 45, op := Go.Op.load 59 (Go.Operand.tmp 8), type := 59, pos := "law.go:284", after := #[], guard := none }) (v := ?_) rfl (by kernel_rfl) (by kernel_rfl) (by kernel_rfl) (fun _ _ _ h => h) (Or.inl ⟨by rfl, ?_⟩) (by assumption) ?_
        rotate_left
        · intro wq hSw; (try dsimp only at hSw); go_simp; (try with_reducible rfl)
        try simp only [Act.put, List.setIfInBounds_toArray, List.set_cons_zero, List.set_cons_succ]
        refine wpAnyH_take (i := 2) (oi := { dst := some 46, op := Go.Op.call { callee := Go.Callee.builtin Go.Builtin.len, args := #[Go.Operand.tmp 45], argTypes := #[59] }, type := 3, pos := "law.go:284", after := #[{ on := 1, ground := Go.Ground.data }], guard := none }) (v := ?_) rfl (by kernel_rfl) (by kernel_rfl) (by kernel_rfl) (fun _ _ _ h => h) (Or.inl ⟨by rfl, ?_⟩) (by assumption) ?_
        rotate_left
        · intro wq hSw; (try dsimp only at hSw); go_simp; (try with_reducible rfl)
        try simp only [Act.put, List.setIfInBounds_toArray, List.set_cons_zero, List.set_cons_succ]
        refine wpAnyH_take (i := 3) (oi := { dst := some 47, op := Go.Op.binOp Go.BinOp.geq 3 (Go.Operand.tmp 44) (Go.Operand.tmp 46) 3, type := 4, pos := "law.go:284", after := #[{ on := 0, ground := Go.Ground.data }, { on := 2, ground := Go.Ground.data }], guard := none }) (v := ?_) rfl (by kernel_rfl) (by kernel_rfl) (by kernel_rfl) (fun _ _ _ h => h) (Or.inl ⟨by rfl, ?_⟩) (by assumption) ?_
        rotate_left
        · intro wq hSw; (try dsimp only at hSw); go_simp; (try with_reducible rfl)
        try simp only [Act.put, List.setIfInBounds_toArray, List.set_cons_zero, List.set_cons_succ]
        refine wpAnyH_take (i := 4) (oi := { dst := some 48, op := Go.Op.move (Go.Operand.tmp 47), type := 4, pos := "law.go:284", after := #[{ on := 3, ground := Go.Ground.data }], guard := none }) (v := ?_) rfl (by kernel_rfl) (by kernel_rfl) (by kernel_rfl) (fun _ _ _ h => h) (Or.inl ⟨by rfl, ?_⟩) (by assumption) ?_
        rotate_left
        · intro wq hSw; (try dsimp only at hSw); go_simp; (try with_reducible rfl)
        try simp only [Act.put, List.setIfInBounds_toArray, List.set_cons_zero, List.set_cons_succ]
        refine wpAnyH_take (i := 5) (oi := { dst := some 49, op := Go.Op.load 70 (Go.Operand.tmp 12), type := 70, pos := "law.go:284", after := #[{ on := 4, ground := Go.Ground.guard }], guard := some (4, false) }) (v := ?_) rfl (by kernel_rfl) (by kernel_rfl) (by kernel_rfl) (fun _ _ _ h => h) (Or.inl ⟨by rfl, ?_⟩) (by assumption) ?_
        rotate_left
        · intro wq hSw; (try dsimp only at hSw); go_simp; (try with_reducible rfl)
        try simp only [Act.put, List.setIfInBounds_toArray, List.set_cons_zero, List.set_cons_succ]
        refine wpAnyH_take (i := 6) (oi := { dst := some 50, op := Go.Op.load 59 (Go.Operand.tmp 8), type := 59, pos := "law.go:284", after := #[{ on := 4, ground := Go.Ground.guard }], guard := some (4, false) }) (v := ?_) rfl (by kernel_rfl) (by kernel_rfl) (by kernel_rfl) (fun _ _ _ h => h) (Or.inl ⟨by rfl, ?_⟩) (by assumption) ?_
        rotate_left
        · intro wq hSw; (try dsimp only at hSw); go_simp; (try with_reducible rfl)
        try simp only [Act.put, List.setIfInBounds_toArray, List.set_cons_zero, List.set_cons_succ]
        refine wpAnyH_take (i := 7) (oi := { dst := some 51, op := Go.Op.load 3 (Go.Operand.tmp 11), type := 3, pos := "law.go:284", after := #[{ on := 4, ground := Go.Ground.guard }], guard := some (4, false) }) (v := ?_) rfl (by kernel_rfl) (by kernel_rfl) (by kernel_rfl) (fun _ _ _ h => h) (Or.inl ⟨by rfl, ?_⟩) (by assumption) ?_
        rotate_left
        · intro wq hSw; (try dsimp only at hSw); go_simp; (try with_reducible rfl)
        try simp only [Act.put, List.setIfInBounds_toArray, List.set_cons_zero, List.set_cons_succ]
        refine wpAnyH_take (i := 8) (oi := { dst := some 52, op := Go.Op.indexAddr 59 (Go.Operand.tmp 50) (Go.Operand.tmp 51), type := 0, pos := "law.go:284", after := #[{ on := 6, ground := Go.Ground.data }, { on := 7, ground := Go.Ground.data }, { on := 4, ground := Go.Ground.guard }], guard := some (4, false) }) (v := ?_) rfl (by kernel_rfl) (by kernel_rfl) (by kernel_rfl) (fun _ _ _ h => h) (Or.inl ⟨by rfl, ?_⟩) (by assumption) ?_
        rotate_left
        · intro wq hSw; (try dsimp only at hSw); go_simp; (try with_reducible rfl)
        try simp only [Act.put, List.setIfInBounds_toArray, List.set_cons_zero, List.set_cons_succ]
        refine wpAnyH_take (i := 9) (oi := { dst := some 53, op := Go.Op.fieldAddr 73 (Go.Operand.tmp 52) 0, type := 0, pos := "law.go:284", after := #[{ on := 8, ground := Go.Ground.data }, { on := 4, ground := Go.Ground.guard }], guard := some (4, false) }) (v := ?_) rfl (by kernel_rfl) (by kernel_rfl) (by kernel_rfl) (fun _ _ _ h => h) (Or.inl ⟨by rfl, ?_⟩) (by assumption) ?_
        rotate_left
        · intro wq hSw; (try dsimp only at hSw); go_simp; (try with_reducible rfl)
        try simp only [Act.put, List.setIfInBounds_toArray, List.set_cons_zero, List.set_cons_succ]
        refine wpAnyH_take (i := 10) (oi := { dst := some 54, op := Go.Op.load 70 (Go.Operand.tmp 53), type := 70, pos := "law.go:284", after := #[{ on := 9, ground := Go.Ground.data }, { on := 4, ground := Go.Ground.guard }], guard := some (4, false) }) (v := ?_) rfl (by kernel_rfl) (by kernel_rfl) (by kernel_rfl) (fun _ _ _ h => h) (Or.inl ⟨by rfl, ?_⟩) (by assumption) ?_
        rotate_left
        · intro wq hSw; (try dsimp only at hSw); go_simp; (try with_reducible rfl)
        try simp only [Act.put, List.setIfInBounds_toArray, List.set_cons_zero, List.set_cons_succ]
        refine wpAnyH_ready (rs := [11]) (by kernel_rfl) (by simp) ?_
        refine AllReadyH.cons (o := { dst := some 55, op := Go.Op.call { callee := Go.Callee.value (Go.Operand.func 38), args := #[Go.Operand.tmp 49, Go.Operand.tmp 54], argTypes := #[70, 70] }, type := 4, pos := "law.go:284", after := #[{ on := 5, ground := Go.Ground.data }, { on := 10, ground := Go.Ground.data }, { on := 4, ground := Go.Ground.chain }, { on := 4, ground := Go.Ground.guard }], guard := some (4, false) }) rfl (fun K hK => ?_) ?_
        rotate_left
        · exact AllReadyH.nil
        go_simp
        refine (sameSpan_any _ _ _ _ _ true (e0)).mono ?_
        rintro e w2 ⟨rfl, hb2⟩
        have hoI : OnlyL [ib] wq w2 := OnlyL.step (by (repeat' (first | with_reducible exact OnlyL.refl _ _ | with_reducible assumption | with_reducible refine OnlyL.drew ?_ | with_reducible refine OnlyL.drewN ?_ _ | with_reducible refine OnlyL.setCell ?_ ?_ _ | with_reducible refine OnlyL.alloc ?_ _ | omega | (simp; done) | (simp; omega)))) hb2
        have hoW : OnlyL [w.heap.size + 1] wq w2 := OnlyL.step (by (repeat' (first | with_reducible exact OnlyL.refl _ _ | with_reducible assumption | with_reducible refine OnlyL.drew ?_ | with_reducible refine OnlyL.drewN ?_ _ | with_reducible refine OnlyL.setCell ?_ ?_ _ | with_reducible refine OnlyL.alloc ?_ _ | omega | (simp; done) | (simp; omega)))) hb2
        replace xI : w2.cell? ⟨ib, 0, none⟩ = some (.int .i64 pre.length) := cellOf hb2 (cell_drew xI)
        replace xP : w2.cell? ⟨w4.heap.size, 0, none⟩ = some (.slice (some ⟨g, off, none⟩) r.length c5) := cellOf hb2 (cell_drew xP)
        replace xB0 : w2.cell? ⟨Bp, 0, none⟩ = some (.int .i64 x.f) := cellOf hb2 (cell_drew xB0)
        replace xB1 : w2.cell? ⟨Bp, 1, none⟩ = some (.int .i64 x.t) := cellOf hb2 (cell_drew xB1)
        replace j0 : w2.cell? ⟨g, off + pre.length * 3, none⟩ = some (.int .i64 p.f) := cellOf hb2 (cell_drew j0)
        replace j1 : w2.cell? ⟨g, off + pre.length * 3 + 1, none⟩ = some (.int .i64 p.t) := cellOf hb2 (cell_drew j1)
        replace j2 : w2.cell? ⟨g, off + pre.length * 3 + 2, none⟩ = some (.int .i64 p.v) := cellOf hb2 (cell_drew j2)
        have RB9 := keepH hb2 (drew_old RB8.out)
        have St9 := keepH hb2 (drew_old St8.out)
        have R9 := keepH hb2 (drew_old R8.out)
        have IB9 := keepH hb2 (drew_old IB8.out)
        go_wp2_with fail
        refine hK.out _ _ ?_ (fun hH1 => ?_)
        · (try dsimp only); exact ⟨xI, xP, xB0, xB1, j0, j1, j2⟩
        clear hK K
        clear hH0
        try simp only [Act.put, List.setIfInBounds_toArray, List.set_cons_zero, List.set_cons_succ]
        refine wpAnyH_take (i := 12) (oi := { dst := some 56, op := Go.Op.unOp Go.UnOp.not 4 (Go.Operand.tmp 55), type := 4, pos := "law.go:284", after := #[{ on := 11, ground := Go.Ground.data }, { on := 4, ground := Go.Ground.guard }], guard := some (4, false) }) (v := ?_) rfl (by kernel_rfl) (by kernel_rfl) (by kernel_rfl) (fun _ _ _ h => h) (Or.inl ⟨by rfl, ?_⟩) (by assumption) ?_
        rotate_left
        · intro wq hSw; (try dsimp only at hSw); go_simp; (try with_reducible rfl)
        try simp only [Act.put, List.setIfInBounds_toArray, List.set_cons_zero, List.set_cons_succ]
        refine wpAnyH_take (i := 13) (oi := { dst := some 57, op := Go.Op.pick (Go.Operand.tmp 48) (Go.Operand.const (Go.Value.bool true)) (Go.Operand.tmp 56), type := 4, pos := "law.go:284", after := #[{ on := 4, ground := Go.Ground.data }, { on := 12, ground := Go.Ground.data }], guard := none }) (v := ?_) rfl (by kernel_rfl) (by kernel_rfl) (by kernel_rfl) (fun _ _ _ h => h) (Or.inl ⟨by rfl, ?_⟩) (by assumption) ?_
        rotate_left
        · intro wq hSw; (try dsimp only at hSw); go_simp; (try with_reducible rfl)
        try simp only [Act.put, List.setIfInBounds_toArray, List.set_cons_zero, List.set_cons_succ]
        refine wpAnyH_take (i := 14) (oi := { dst := some 58, op := Go.Op.move (Go.Operand.tmp 57), type := 4, pos := "law.go:284", after := #[{ on := 13, ground := Go.Ground.data }, { on := 11, ground := Go.Ground.chain }], guard := none }) (v := ?_) rfl (by kernel_rfl) (by kernel_rfl) (by kernel_rfl) (fun _ _ _ h => h) (Or.inl ⟨by rfl, ?_⟩) (by assumption) ?_
        rotate_left
        · intro wq hSw; (try dsimp only at hSw); go_simp; (try with_reducible rfl)
        try simp only [Act.put, List.setIfInBounds_toArray, List.set_cons_zero, List.set_cons_succ]
        refine wpAnyH_take (i := 15) (oi := { dst := some 59, op := Go.Op.move (Go.Operand.tmp 13), type := 3, pos := "law.go:284", after := #[{ on := 14, ground := Go.Ground.guard }], guard := some (14, false) }) (v := ?_) rfl (by kernel_rfl) (by kernel_rfl) (by kernel_rfl) (fun _ _ _ h => h) (Or.inl ⟨by rfl, ?_⟩) (by assumption) ?_
        rotate_left
        · intro wq hSw; (try dsimp only at hSw); go_simp; (try with_reducible rfl)
        try simp only [Act.put, List.setIfInBounds_toArray, List.set_cons_zero, List.set_cons_succ]
        refine wpAnyH_take (i := 16) (oi := { dst := some 60, op := Go.Op.load 59 (Go.Operand.tmp 8), type := 59, pos := "law.go:284", after := #[{ on := 14, ground := Go.Ground.guard }], guard := some (14, false) }) (v := ?_) rfl (by kernel_rfl) (by kernel_rfl) (by kernel_rfl) (fun _ _ _ h => h) (Or.inl ⟨by rfl, ?_⟩) (by assumption) ?_
        rotate_left
        · intro wq hSw; (try dsimp only at hSw); go_simp; (try with_reducible rfl)
        try simp only [Act.put, List.setIfInBounds_toArray, List.set_cons_zero, List.set_cons_succ]
        refine wpAnyH_take (i := 17) (oi := { dst := some 61, op := Go.Op.load 3 (Go.Operand.tmp 11), type := 3, pos := "law.go:284", after := #[{ on := 14, ground := Go.Ground.guard }], guard := some (14, false) }) (v := ?_) rfl (by kernel_rfl) (by kernel_rfl) (by kernel_rfl) (fun _ _ _ h => h) (Or.inl ⟨by rfl, ?_⟩) (by assumption) ?_
        rotate_left
        · intro wq hSw; (try dsimp only at hSw); go_simp; (try with_reducible rfl)
        try simp only [Act.put, List.setIfInBounds_toArray, List.set_cons_zero, List.set_cons_succ]
        refine wpAnyH_take (i := 18) (oi := { dst := some 62, op := Go.Op.indexAddr 59 (Go.Operand.tmp 60) (Go.Operand.tmp 61), type := 0, pos := "law.go:284", after := #[{ on := 16, ground := Go.Ground.data }, { on := 17, ground := Go.Ground.data }, { on := 14, ground := Go.Ground.guard }], guard := some (14, false) }) (v := ?_) rfl (by kernel_rfl) (by kernel_rfl) (by kernel_rfl) (fun _ _ _ h => h) (Or.inl ⟨by rfl, ?_⟩) (by assumption) ?_
        rotate_left
        · intro wq hSw; (try dsimp only at hSw); go_simp; (try with_reducible rfl)
        try simp only [Act.put, List.setIfInBounds_toArray, List.set_cons_zero, List.set_cons_succ]
        refine wpAnyH_take (i := 19) (oi := { dst := some 63, op := Go.Op.fieldAddr 73 (Go.Operand.tmp 62) 1, type := 0, pos := "law.go:284", after := #[{ on := 18, ground := Go.Ground.data }, { on := 14, ground := Go.Ground.guard }], guard := some (14, false) }) (v := ?_) rfl (by kernel_rfl) (by kernel_rfl) (by kernel_rfl) (fun _ _ _ h => h) (Or.inl ⟨by rfl, ?_⟩) (by assumption) ?_
        rotate_left
        · intro wq hSw; (try dsimp only at hSw); go_simp; (try with_reducible rfl)
        try simp only [Act.put, List.setIfInBounds_toArray, List.set_cons_zero, List.set_cons_succ]
        refine wpAnyH_take (i := 20) (oi := { dst := some 64, op := Go.Op.load 3 (Go.Operand.tmp 63), type := 3, pos := "law.go:284", after := #[{ on := 19, ground := Go.Ground.data }, { on := 14, ground := Go.Ground.guard }], guard := some (14, false) }) (v := ?_) rfl (by kernel_rfl) (by kernel_rfl) (by kernel_rfl) (fun _ _ _ h => h) (Or.inl ⟨by rfl, ?_⟩) (by assumption) ?_
        rotate_left
        · intro wq hSw; (try dsimp only at hSw); go_simp; (try with_reducible rfl)
        try simp only [Act.put, List.setIfInBounds_toArray, List.set_cons_zero, List.set_cons_succ]
        refine wpAnyH_take (i := 21) (oi := { dst := some 65, op := Go.Op.binOp Go.BinOp.neq 3 (Go.Operand.tmp 59) (Go.Operand.tmp 64) 3, type := 4, pos := "law.go:284", after := #[{ on := 15, ground := Go.Ground.data }, { on := 20, ground := Go.Ground.data }, { on := 14, ground := Go.Ground.guard }], guard := some (14, false) }) (v := ?_) rfl (by kernel_rfl) (by kernel_rfl) (by kernel_rfl) (fun _ _ _ h => h) (Or.inl ⟨by rfl, ?_⟩) (by assumption) ?_
        rotate_left
        · intro wq hSw; (try dsimp only at hSw); go_simp; (try with_reducible rfl)
        try simp only [Act.put, List.setIfInBounds_toArray, List.set_cons_zero, List.set_cons_succ]
        refine wpAnyH_take (i := 22) (oi := { dst := some 66, op := Go.Op.pick (Go.Operand.tmp 58) (Go.Operand.const (Go.Value.bool true)) (Go.Operand.tmp 65), type := 4, pos := "law.go:284", after := #[{ on := 14, ground := Go.Ground.data }, { on := 21, ground := Go.Ground.data }], guard := none }) (v := ?_) rfl (by kernel_rfl) (by kernel_rfl) (by kernel_rfl) (fun _ _ _ h => h) (Or.inl ⟨by rfl, ?_⟩) (by assumption) ?_
        rotate_left
        · intro wq hSw; (try dsimp only at hSw); go_simp; (try with_reducible rfl)
        try simp only [Act.put, List.setIfInBounds_toArray, List.set_cons_zero, List.set_cons_succ]
        refine wpAnyH_done (by kernel_rfl) ?_ _
        refine noOut_normal ?_
        have cR9 := cellH R9
        have fzR9 := frozH R9
        clear RB9 St9 IB9 hH1 xI xP xB0 xB1 j0 j1 j2
        gi_wp2_with fail
        exact ⟨OnlyL.from (L := [w.heap.size + 1]) (OnlyL.setCell hoW (.inl (List.mem_singleton.2 rfl)) _) _ HCL.out, .inl (fun h => HXP.out (prefix_at h HP.out))⟩
    · have e0 : (x.f == p.f && x.t == p.t) = false := by
        rw [Bool.and_eq_false_imp]
        intro h
        rw [beq_eq_false_iff_ne]
        exact fun h2 => hx1 ⟨by simpa using h, h2⟩
      have HXP : Hid (¬ x = p) := fun h => hx1 ⟨by rw [h], by rw [h]⟩
      clear hx1
      refine round_held_drew (S := fun w' => w'.cell? ⟨ib, 0, none⟩ = some (.int .i64 pre.length) ∧ w'.cell? ⟨w4.heap.size, 0, none⟩ = some (.slice (some ⟨g, off, none⟩) r.length c5) ∧ w'.cell? ⟨Bp, 0, none⟩ = some (.int .i64 x.f) ∧ w'.cell? ⟨Bp, 1, none⟩ = some (.int .i64 x.t) ∧ w'.cell? ⟨g, off + pre.length * 3, none⟩ = some (.int .i64 p.f) ∧ w'.cell? ⟨g, off + pre.length * 3 + 1, none⟩ = some (.int .i64 p.t) ∧ w'.cell? ⟨g, off + pre.length * 3 + 2, none⟩ = some (.int .i64 p.v)) (by kernel_rfl) (by kernel_rfl) ?_ (fun hH0 => ?_)
      · exact ⟨xI, xP, xB0, xB1, j0, j1, j2⟩
      refine wpAnyH_take (i := 0) (oi := { dst := some 44, op := Go.Op.load 3 (Go.Operand.tmp 11), type := 3, pos := "law.go:284", after := #[], guard := none }) (v := ?_) rfl (by kernel_rfl) (by kernel_rfl) (by kernel_rfl) (fun _ _ _ h => h) (Or.inl ⟨by rfl, ?_⟩) (by assumption) ?_
      rotate_left
      · intro wq hSw; (try dsimp only at hSw); go_simp; (try with_reducible rfl)
      try simp only [Act.put, List.setIfInBounds_toArray, List.set_cons_zero, List.set_cons_succ]
      refine wpAnyH_take (i := 1) (oi := { dst := some 45, op := Go.Op.load 59 (Go.Operand.tmp 8), type := 59, pos := "law.go:284", after := #[], guard := none }) (v := ?_) rfl (by kernel_rfl) (by kernel_rfl) (by kernel_rfl) (fun _ _ _ h => h) (Or.inl ⟨by rfl, ?_⟩) (by assumption) ?_
      rotate_left
      · intro wq hSw; (try dsimp only at hSw); go_simp; (try with_reducible rfl)
      try simp only [Act.put, List.setIfInBounds_toArray, List.set_cons_zero, List.set_cons_succ]
      refine wpAnyH_take (i := 2) (oi := { dst := some 46, op := Go.Op.call { callee := Go.Callee.builtin Go.Builtin.len, args := #[Go.Operand.tmp 45], argTypes := #[59] }, type := 3, pos := "law.go:284", after := #[{ on := 1, ground := Go.Ground.data }], guard := none }) (v := ?_) rfl (by kernel_rfl) (by kernel_rfl) (by kernel_rfl) (fun _ _ _ h => h) (Or.inl ⟨by rfl, ?_⟩) (by assumption) ?_
      rotate_left
      · intro wq hSw; (try dsimp only at hSw); go_simp; (try with_reducible rfl)
      try simp only [Act.put, List.setIfInBounds_toArray, List.set_cons_zero, List.set_cons_succ]
      refine wpAnyH_take (i := 3) (oi := { dst := some 47, op := Go.Op.binOp Go.BinOp.geq 3 (Go.Operand.tmp 44) (Go.Operand.tmp 46) 3, type := 4, pos := "law.go:284", after := #[{ on := 0, ground := Go.Ground.data }, { on := 2, ground := Go.Ground.data }], guard := none }) (v := ?_) rfl (by kernel_rfl) (by kernel_rfl) (by kernel_rfl) (fun _ _ _ h => h) (Or.inl ⟨by rfl, ?_⟩) (by assumption) ?_
      rotate_left
      · intro wq hSw; (try dsimp only at hSw); go_simp; (try with_reducible rfl)
      try simp only [Act.put, List.setIfInBounds_toArray, List.set_cons_zero, List.set_cons_succ]
      refine wpAnyH_take (i := 4) (oi := { dst := some 48, op := Go.Op.move (Go.Operand.tmp 47), type := 4, pos := "law.go:284", after := #[{ on := 3, ground := Go.Ground.data }], guard := none }) (v := ?_) rfl (by kernel_rfl) (by kernel_rfl) (by kernel_rfl) (fun _ _ _ h => h) (Or.inl ⟨by rfl, ?_⟩) (by assumption) ?_
      rotate_left
      · intro wq hSw; (try dsimp only at hSw); go_simp; (try with_reducible rfl)
      try simp only [Act.put, List.setIfInBounds_toArray, List.set_cons_zero, List.set_cons_succ]
      refine wpAnyH_take (i := 5) (oi := { dst := some 49, op := Go.Op.load 70 (Go.Operand.tmp 12), type := 70, pos := "law.go:284", after := #[{ on := 4, ground := Go.Ground.guard }], guard := some (4, false) }) (v := ?_) rfl (by kernel_rfl) (by kernel_rfl) (by kernel_rfl) (fun _ _ _ h => h) (Or.inl ⟨by rfl, ?_⟩) (by assumption) ?_
      rotate_left
      · intro wq hSw; (try dsimp only at hSw); go_simp; (try with_reducible rfl)
      try simp only [Act.put, List.setIfInBounds_toArray, List.set_cons_zero, List.set_cons_succ]
      refine wpAnyH_take (i := 6) (oi := { dst := some 50, op := Go.Op.load 59 (Go.Operand.tmp 8), type := 59, pos := "law.go:284", after := #[{ on := 4, ground := Go.Ground.guard }], guard := some (4, false) }) (v := ?_) rfl (by kernel_rfl) (by kernel_rfl) (by kernel_rfl) (fun _ _ _ h => h) (Or.inl ⟨by rfl, ?_⟩) (by assumption) ?_
      rotate_left
      · intro wq hSw; (try dsimp only at hSw); go_simp; (try with_reducible rfl)
      try simp only [Act.put, List.setIfInBounds_toArray, List.set_cons_zero, List.set_cons_succ]
      refine wpAnyH_take (i := 7) (oi := { dst := some 51, op := Go.Op.load 3 (Go.Operand.tmp 11), type := 3, pos := "law.go:284", after := #[{ on := 4, ground := Go.Ground.guard }], guard := some (4, false) }) (v := ?_) rfl (by kernel_rfl) (by kernel_rfl) (by kernel_rfl) (fun _ _ _ h => h) (Or.inl ⟨by rfl, ?_⟩) (by assumption) ?_
      rotate_left
      · intro wq hSw; (try dsimp only at hSw); go_simp; (try with_reducible rfl)
      try simp only [Act.put, List.setIfInBounds_toArray, List.set_cons_zero, List.set_cons_succ]
      refine wpAnyH_take (i := 8) (oi := { dst := some 52, op := Go.Op.indexAddr 59 (Go.Operand.tmp 50) (Go.Operand.tmp 51), type := 0, pos := "law.go:284", after := #[{ on := 6, ground := Go.Ground.data }, { on := 7, ground := Go.Ground.data }, { on := 4, ground := Go.Ground.guard }], guard := some (4, false) }) (v := ?_) rfl (by kernel_rfl) (by kernel_rfl) (by kernel_rfl) (fun _ _ _ h => h) (Or.inl ⟨by rfl, ?_⟩) (by assumption) ?_
      rotate_left
      · intro wq hSw; (try dsimp only at hSw); go_simp; (try with_reducible rfl)
      try simp only [Act.put, List.setIfInBounds_toArray, List.set_cons_zero, List.set_cons_succ]
      refine wpAnyH_take (i := 9) (oi := { dst := some 53, op := Go.Op.fieldAddr 73 (Go.Operand.tmp 52) 0, type := 0, pos := "law.go:284", after := #[{ on := 8, ground := Go.Ground.data }, { on := 4, ground := Go.Ground.guard }], guard := some (4, false) }) (v := ?_) rfl (by kernel_rfl) (by kernel_rfl) (by kernel_rfl) (fun _ _ _ h => h) (Or.inl ⟨by rfl, ?_⟩) (by assumption) ?_
      rotate_left
      · intro wq hSw; (try dsimp only at hSw); go_simp; (try with_reducible rfl)
      try simp only [Act.put, List.setIfInBounds_toArray, List.set_cons_zero, List.set_cons_succ]
      refine wpAnyH_take (i := 10) (oi := { dst := some 54, op := Go.Op.load 70 (Go.Operand.tmp 53), type := 70, pos := "law.go:284", after := #[{ on := 9, ground := Go.Ground.data }, { on := 4, ground := Go.Ground.guard }], guard := some (4, false) }) (v := ?_) rfl (by kernel_rfl) (by kernel_rfl) (by kernel_rfl) (fun _ _ _ h => h) (Or.inl ⟨by rfl, ?_⟩) (by assumption) ?_
      rotate_left
      · intro wq hSw; (try dsimp only at hSw); go_simp; (try with_reducible rfl)
      try simp only [Act.put, List.setIfInBounds_toArray, List.set_cons_zero, List.set_cons_succ]
      refine wpAnyH_ready (rs := [11]) (by kernel_rfl) (by simp) ?_
      refine AllReadyH.cons (o := { dst := some 55, op := Go.Op.call { callee := Go.Callee.value (Go.Operand.func 38), args := #[Go.Operand.tmp 49, Go.Operand.tmp 54], argTypes := #[70, 70] }, type := 4, pos := "law.go:284", after := #[{ on := 5, ground := Go.Ground.data }, { on := 10, ground := Go.Ground.data }, { on := 4, ground := Go.Ground.chain }, { on := 4, ground := Go.Ground.guard }], guard := some (4, false) }) rfl (fun K hK => ?_) ?_
      rotate_left
      · exact AllReadyH.nil
      go_simp
      refine (sameSpan_any _ _ _ _ _ false (e0)).mono ?_
      rintro e w2 ⟨rfl, hb2⟩
      have hoI : OnlyL [ib] wq w2 := OnlyL.step (by (repeat' (first | with_reducible exact OnlyL.refl _ _ | with_reducible assumption | with_reducible refine OnlyL.drew ?_ | with_reducible refine OnlyL.drewN ?_ _ | with_reducible refine OnlyL.setCell ?_ ?_ _ | with_reducible refine OnlyL.alloc ?_ _ | omega | (simp; done) | (simp; omega)))) hb2
      have hoW : OnlyL [w.heap.size + 1] wq w2 := OnlyL.step (by (repeat' (first | with_reducible exact OnlyL.refl _ _ | with_reducible assumption | with_reducible refine OnlyL.drew ?_ | with_reducible refine OnlyL.drewN ?_ _ | with_reducible refine OnlyL.setCell ?_ ?_ _ | with_reducible refine OnlyL.alloc ?_ _ | omega | (simp; done) | (simp; omega)))) hb2
      replace xI : w2.cell? ⟨ib, 0, none⟩ = some (.int .i64 pre.length) := cellOf hb2 (cell_drew xI)
      replace xP : w2.cell? ⟨w4.heap.size, 0, none⟩ = some (.slice (some ⟨g, off, none⟩) r.length c5) := cellOf hb2 (cell_drew xP)
      replace xB0 : w2.cell? ⟨Bp, 0, none⟩ = some (.int .i64 x.f) := cellOf hb2 (cell_drew xB0)
      replace xB1 : w2.cell? ⟨Bp, 1, none⟩ = some (.int .i64 x.t) := cellOf hb2 (cell_drew xB1)
      replace j0 : w2.cell? ⟨g, off + pre.length * 3, none⟩ = some (.int .i64 p.f) := cellOf hb2 (cell_drew j0)
      replace j1 : w2.cell? ⟨g, off + pre.length * 3 + 1, none⟩ = some (.int .i64 p.t) := cellOf hb2 (cell_drew j1)
      replace j2 : w2.cell? ⟨g, off + pre.length * 3 + 2, none⟩ = some (.int .i64 p.v) := cellOf hb2 (cell_drew j2)
      have RB9 := keepH hb2 (drew_old RB8.out)
      have St9 := keepH hb2 (drew_old St8.out)
      have R9 := keepH hb2 (drew_old R8.out)
      have IB9 := keepH hb2 (drew_old IB8.out)
      go_wp2_with fail
      refine hK.out _ _ ?_ (fun hH1 => ?_)
      · (try dsimp only); exact ⟨xI, xP, xB0, xB1, j0, j1, j2⟩
      clear hK K
      clear hH0
      try simp only [Act.put, List.setIfInBounds_toArray, List.set_cons_zero, List.set_cons_succ]
      refine wpAnyH_take (i := 12) (oi := { dst := some 56, op := Go.Op.unOp Go.UnOp.not 4 (Go.Operand.tmp 55), type := 4, pos := "law.go:284", after := #[{ on := 11, ground := Go.Ground.data }, { on := 4, ground := Go.Ground.guard }], guard := some (4, false) }) (v := ?_) rfl (by kernel_rfl) (by kernel_rfl) (by kernel_rfl) (fun _ _ _ h => h) (Or.inl ⟨by rfl, ?_⟩) (by assumption) ?_
      rotate_left
      · intro wq hSw; (try dsimp only at hSw); go_simp; (try with_reducible rfl)
      try simp only [Act.put, List.setIfInBounds_toArray, List.set_cons_zero, List.set_cons_succ]
      refine wpAnyH_take (i := 13) (oi := { dst := some 57, op := Go.Op.pick (Go.Operand.tmp 48) (Go.Operand.const (Go.Value.bool true)) (Go.Operand.tmp 56), type := 4, pos := "law.go:284", after := #[{ on := 4, ground := Go.Ground.data }, { on := 12, ground := Go.Ground.data }], guard := none }) (v := ?_) rfl (by kernel_rfl) (by kernel_rfl) (by kernel_rfl) (fun _ _ _ h => h) (Or.inl ⟨by rfl, ?_⟩) (by assumption) ?_
      rotate_left
      · intro wq hSw; (try dsimp only at hSw); go_simp; (try with_reducible rfl)
      try simp only [Act.put, List.setIfInBounds_toArray, List.set_cons_zero, List.set_cons_succ]
      refine wpAnyH_take (i := 14) (oi := { dst := some 58, op := Go.Op.move (Go.Operand.tmp 57), type := 4, pos := "law.go:284", after := #[{ on := 13, ground := Go.Ground.data }, { on := 11, ground := Go.Ground.chain }], guard := none }) (v := ?_) rfl (by kernel_rfl) (by kernel_rfl) (by kernel_rfl) (fun _ _ _ h => h) (Or.inl ⟨by rfl, ?_⟩) (by assumption) ?_
      rotate_left
      · intro wq hSw; (try dsimp only at hSw); go_simp; (try with_reducible rfl)
      try simp only [Act.put, List.setIfInBounds_toArray, List.set_cons_zero, List.set_cons_succ]
      refine wpAnyH_take (i := 15) (oi := { dst := some 59, op := Go.Op.move (Go.Operand.tmp 13), type := 3, pos := "law.go:284", after := #[{ on := 14, ground := Go.Ground.guard }], guard := some (14, false) }) (v := undef) rfl (by kernel_rfl) (by kernel_rfl) (by kernel_rfl) (fun _ _ _ h => h) (Or.inr ⟨by rfl, rfl⟩) (by assumption) ?_
      try simp only [Act.put, List.setIfInBounds_toArray, List.set_cons_zero, List.set_cons_succ]
      refine wpAnyH_take (i := 16) (oi := { dst := some 60, op := Go.Op.load 59 (Go.Operand.tmp 8), type := 59, pos := "law.go:284", after := #[{ on := 14, ground := Go.Ground.guard }], guard := some (14, false) }) (v := undef) rfl (by kernel_rfl) (by kernel_rfl) (by kernel_rfl) (fun _ _ _ h => h) (Or.inr ⟨by rfl, rfl⟩) (by assumption) ?_
      try simp only [Act.put, List.setIfInBounds_toArray, List.set_cons_zero, List.set_cons_succ]
      refine wpAnyH_take (i := 17) (oi := { dst := some 61, op := Go.Op.load 3 (Go.Operand.tmp 11), type := 3, pos := "law.go:284", after := #[{ on := 14, ground := Go.Ground.guard }], guard := some (14, false) }) (v := undef) rfl (by kernel_rfl) (by kernel_rfl) (by kernel_rfl) (fun _ _ _ h => h) (Or.inr ⟨by rfl, rfl⟩) (by assumption) ?_
      try simp only [Act.put, List.setIfInBounds_toArray, List.set_cons_zero, List.set_cons_succ]
      refine wpAnyH_take (i := 18) (oi := { dst := some 62, op := Go.Op.indexAddr 59 (Go.Operand.tmp 60) (Go.Operand.tmp 61), type := 0, pos := "law.go:284", after := #[{ on := 16, ground := Go.Ground.data }, { on := 17, ground := Go.Ground.data }, { on := 14, ground := Go.Ground.guard }], guard := some (14, false) }) (v := undef) rfl (by kernel_rfl) (by kernel_rfl) (by kernel_rfl) (fun _ _ _ h => h) (Or.inr ⟨by rfl, rfl⟩) (by assumption) ?_
      try simp only [Act.put, List.setIfInBounds_toArray, List.set_cons_zero, List.set_cons_succ]
      refine wpAnyH_take (i := 19) (oi := { dst := some 63, op := Go.Op.fieldAddr 73 (Go.Operand.tmp 62) 1, type := 0, pos := "law.go:284", after := #[{ on := 18, ground := Go.Ground.data }, { on := 14, ground := Go.Ground.guard }], guard := some (14, false) }) (v := undef) rfl (by kernel_rfl) (by kernel_rfl) (by kernel_rfl) (fun _ _ _ h => h) (Or.inr ⟨by rfl, rfl⟩) (by assumption) ?_
      try simp only [Act.put, List.setIfInBounds_toArray, List.set_cons_zero, List.set_cons_succ]
      refine wpAnyH_take (i := 20) (oi := { dst := some 64, op := Go.Op.load 3 (Go.Operand.tmp 63), type := 3, pos := "law.go:284", after := #[{ on := 19, ground := Go.Ground.data }, { on := 14, ground := Go.Ground.guard }], guard := some (14, false) }) (v := undef) rfl (by kernel_rfl) (by kernel_rfl) (by kernel_rfl) (fun _ _ _ h => h) (Or.inr ⟨by rfl, rfl⟩) (by assumption) ?_
      try simp only [Act.put, List.setIfInBounds_toArray, List.set_cons_zero, List.set_cons_succ]
      refine wpAnyH_take (i := 21) (oi := { dst := some 65, op := Go.Op.binOp Go.BinOp.neq 3 (Go.Operand.tmp 59) (Go.Operand.tmp 64) 3, type := 4, pos := "law.go:284", after := #[{ on := 15, ground := Go.Ground.data }, { on := 20, ground := Go.Ground.data }, { on := 14, ground := Go.Ground.guard }], guard := some (14, false) }) (v := undef) rfl (by kernel_rfl) (by kernel_rfl) (by kernel_rfl) (fun _ _ _ h => h) (Or.inr ⟨by rfl, rfl⟩) (by assumption) ?_
      try simp only [Act.put, List.setIfInBounds_toArray, List.set_cons_zero, List.set_cons_succ]
      refine wpAnyH_take (i := 22) (oi := { dst := some 66, op := Go.Op.pick (Go.Operand.tmp 58) (Go.Operand.const (Go.Value.bool true)) (Go.Operand.tmp 65), type := 4, pos := "law.go:284", after := #[{ on := 14, ground := Go.Ground.data }, { on := 21, ground := Go.Ground.data }], guard := none }) (v := ?_) rfl (by kernel_rfl) (by kernel_rfl) (by kernel_rfl) (fun _ _ _ h => h) (Or.inl ⟨by rfl, ?_⟩) (by assumption) ?_
      rotate_left
      · intro wq hSw; (try dsimp only at hSw); go_simp; (try with_reducible rfl)
      try simp only [Act.put, List.setIfInBounds_toArray, List.set_cons_zero, List.set_cons_succ]
      refine wpAnyH_done (by kernel_rfl) ?_ _
      refine noOut_normal ?_
      have cR9 := cellH R9
      have fzR9 := frozH R9
      clear RB9 St9 IB9 hH1 xI xP xB0 xB1 j0 j1 j2
      gi_wp2_with fail
      exact ⟨OnlyL.from (L := [w.heap.size + 1]) (OnlyL.setCell hoW (.inl (List.mem_singleton.2 rfl)) _) _ HCL.out, .inl (fun h => HXP.out (prefix_at h HP.out))⟩
  case done =>
    intro D0 xs W hD0 hxs hI hK
    rw [hxs] at hI
    obtain ⟨i1, i2, i3⟩ := hI
    subst ha
    have zq := i2.size
    have St8 : Hid (W.heap[w.heap.size]? = some (.cells #[.int .i64 stop] 3 (0, 0))) := (i2.block _ l7St).trans St7.out
    have R8 : Hid (W.heap[w.heap.size + 1]? = some (.cells #[.bool false] 4 (0, 0))) := (i2.block _ l7R).trans R7.out
    have PB8 : Hid (W.heap[w4.heap.size]? = some (.cells #[.slice A5 r.length c5] 59 (0, 0))) := (i2.block _ l7P).trans PB7.out
    have BX8 : Hid (W.heap[Bx]? = some (.cells #[.slice A3 r.length c3] 61 (0, 0))) := (i2.block _ l7B).trans BX7.out
    have RB8 : Hid (W.heap[rb]? = some (.cells #[.int .i64 0] 3 (0, 0))) := (i2.block _ l7RB).trans RB7.out
    have HKD := Lib.hid hK
    have hw8 : Below w.heap.size w W := hw7.trans (i2.mono zw6)
    have hv8 : Below w4.heap.size w4 W := hv7.trans (i2.mono zv6)
    have hx8 : Below w3.heap.size w3 W := hx7.trans (i2.mono zx6)
    have IB8 : Hid (W.heap[ib]? = some (.cells #[.int .i64 r.length] 3 (0, 0))) := i1
    have cSt := cellH St8
    have cPB := cellH PB8
    have cRB := cellH RB8
    have cIB := cellH IB8
    clear i1 i2 i3 hK hxs
    gi_wp2_with fail
    have RB9 : Hid ((W.alloc (.cells #[.int .i64 1] 3)).heap[W.heap.size]? = some (.cells #[.int .i64 1] 3 (0, 0))) := blk_new rfl
    have St6 := Lib.hid (blk_old (o := .cells #[.int .i64 1] 3) St8.out)
    have R6 := Lib.hid (blk_old (o := .cells #[.int .i64 1] 3) R8.out)
    have PB6 := Lib.hid (blk_old (o := .cells #[.int .i64 1] 3) PB8.out)
    have BX6 := Lib.hid (blk_old (o := .cells #[.int .i64 1] 3) BX8.out)
    have KD0 := Lib.hid (blk_old (o := .cells #[.int .i64 1] 3) HKD.out)

    have zw8 := hw8.size
    have zv8 := hv8.size
    have zx8 := hx8.size
    have hw6 : Below w.heap.size w (W.alloc (.cells #[.int .i64 1] 3)) := by (repeat' (first | with_reducible exact Below.refl _ _ | with_reducible assumption | with_reducible refine Below.drew ?_ | with_reducible refine below_drewN ?_ _ | with_reducible refine Below.setCell ?_ ?_ _ | with_reducible refine Below.alloc ?_ ?_ _ | omega | (simp; done) | (simp; omega)))
    have hv6 : Below w4.heap.size w4 (W.alloc (.cells #[.int .i64 1] 3)) := by (repeat' (first | with_reducible exact Below.refl _ _ | with_reducible assumption | with_reducible refine Below.drew ?_ | with_reducible refine below_drewN ?_ _ | with_reducible refine Below.setCell ?_ ?_ _ | with_reducible refine Below.alloc ?_ ?_ _ | omega | (simp; done) | (simp; omega)))
    have hx6 : Below w3.heap.size w3 (W.alloc (.cells #[.int .i64 1] 3)) := by (repeat' (first | with_reducible exact Below.refl _ _ | with_reducible assumption | with_reducible refine Below.drew ?_ | with_reducible refine below_drewN ?_ _ | with_reducible refine Below.setCell ?_ ?_ _ | with_reducible refine Below.alloc ?_ ?_ _ | omega | (simp; done) | (simp; omega)))
    obtain ⟨rb9, hrb⟩ : ∃ rb, W.heap.size = rb := ⟨_, rfl⟩
    clear St8 R8 PB8 BX8 RB8 IB8 HKD hw8 hv8 hx8 cSt cPB cRB cIB St7 R7 PB7 BX7 RB7 IB7 hw7 hv7 hx7 HA7
    generalize (W.alloc (.cells #[.int .i64 1] 3)) = w69 at *
    rw [hrb] at RB9 ⊢
    rw [hrb] at zw8 zv8 zx8 zq
    clear hrb
    have cRB := cellH RB9
    have cP := cellH PB6

    rw [roundsIn_succ]
    gi_wp2_with fail
    have IB7 : Hid ((w69.alloc (.cells #[.int .i64 0] 3)).heap[w69.heap.size]? = some (.cells #[.int .i64 0] 3 (0, 0))) := blk_new rfl
    have St7 := Lib.hid (blk_old (o := .cells #[.int .i64 0] 3) St6.out)
    have R7 := Lib.hid (blk_old (o := .cells #[.int .i64 0] 3) R6.out)
    have PB7 := Lib.hid (blk_old (o := .cells #[.int .i64 0] 3) PB6.out)
    have BX7 := Lib.hid (blk_old (o := .cells #[.int .i64 0] 3) BX6.out)
    have RB7 := Lib.hid (blk_old (o := .cells #[.int .i64 0] 3) RB9.out)
    have KD07 := Lib.hid (blk_old (o := .cells #[.int .i64 0] 3) KD0.out)
    have lD0 : D0 < w69.heap.size := (Array.getElem?_eq_some_iff.1 KD0.out).1
    have zw6 := hw6.size
    have zv6 := hv6.size
    have zx6 := hx6.size
    have hw7 : Below w.heap.size w (w69.alloc (.cells #[.int .i64 0] 3)) := by (repeat' (first | with_reducible exact Below.refl _ _ | with_reducible assumption | with_reducible refine Below.drew ?_ | with_reducible refine below_drewN ?_ _ | with_reducible refine Below.setCell ?_ ?_ _ | with_reducible refine Below.alloc ?_ ?_ _ | omega | (simp; done) | (simp; omega)))
    have hv7 : Below w4.heap.size w4 (w69.alloc (.cells #[.int .i64 0] 3)) := by (repeat' (first | with_reducible exact Below.refl _ _ | with_reducible assumption | with_reducible refine Below.drew ?_ | with_reducible refine below_drewN ?_ _ | with_reducible refine Below.setCell ?_ ?_ _ | with_reducible refine Below.alloc ?_ ?_ _ | omega | (simp; done) | (simp; omega)))
    have hx7 : Below w3.heap.size w3 (w69.alloc (.cells #[.int .i64 0] 3)) := by (repeat' (first | with_reducible exact Below.refl _ _ | with_reducible assumption | with_reducible refine Below.drew ?_ | with_reducible refine below_drewN ?_ _ | with_reducible refine Below.setCell ?_ ?_ _ | with_reducible refine Below.alloc ?_ ?_ _ | omega | (simp; done) | (simp; omega)))
    have hu7 : w69.heap.size < (w69.alloc (.cells #[.int .i64 0] 3)).heap.size := by simp
    have l7St := lt_of_H St6
    have l7R := lt_of_H R6
    have l7P := lt_of_H PB6
    have l7B := lt_of_H BX6
    have l7RB := lt_of_H RB9
    obtain ⟨ib, hib⟩ : ∃ ib, w69.heap.size = ib := ⟨_, rfl⟩
    clear St6 R6 PB6 BX6 RB9 hw6 hv6 hx6 cRB cP
    generalize (w69.alloc (.cells #[.int .i64 0] 3)) = w7 at *
    rw [hib] at IB7 hu7 l7St l7R l7P l7B l7RB zw6 zv6 zx6 lD0 ⊢
    clear hib
    have HA7 : RowAt encP 3 w7 ib A3 r := (HROW.out.below hx7 (Nat.le_refl _)).more zx6
    generalize ha : Act.mk _ _ = a0
    refine wpIn_rangeFunc_ownH rfl (by decide) (gf := 98) (lb := #[.pointer (some ⟨Bx, 0, none⟩)]) (by rw [← ha]; rfl) trivial (enters_of Tryd.func98 (by kernel_rfl) rfl)
      (all1_stops r A3 c3 (by omega) (3 - 1) Bx ib l7B w7 (Nat.le_of_lt hu7) BX7 HA7)
      Below.trans (fun W l o o' hl h q1 q2 => (keepR_b (m := ib) (lo := 0) (hi := 0) (Nat.le_of_lt hu7) (Nat.zero_le _) W l o o' hl h q1 q2).below) (Below.refl _ _) (fun x => rfl)
      (LiI r ib w7) (LiX r ib w7 (-1)) (LiI_own (Nat.le_of_lt hu7) (Nat.le_refl _)) (fun c => LiX_own c (Nat.le_of_lt hu7) (Nat.le_refl _)) ⟨IB7.out, Below.refl _ _, rfl⟩
      (fun x a' W => ∃ Bp, w7.heap.size ≤ Bp ∧ W.heap[Bp]? = some (.cells #[.int .i64 x.f, .int .i64 x.t] 70 (0, 0)) ∧ a' = { tmps := (((a0.tmps.setIfInBounds 42 (.agg #[.int .i64 x.f, .int .i64 x.t])).setIfInBounds 43 (.int .i64 x.v)).setIfInBounds 12 (.pointer (some ⟨Bp, 0, none⟩))).setIfInBounds 13 (.int .i64 x.v), defers := [] })
      (fun x a' s W W' row hs hg hr => by obtain ⟨Bp, h2, h3, h4⟩ := hs; exact ⟨Bp, h2, ownBlk h3 hg hr, h4⟩) ?assign1 ?body1 ?done1 ?stop1
    case assign1 =>
      intro l9 pre x W K hI hK
      obtain ⟨i1, i2, i3⟩ := hI
      have zz := i2.size
      subst ha
      simp only [encS]
      gi_wp2_with fail
      have h9 := hK _ _ ((KeepsOthers.alloc W (.cells #[.int .i64 x.f, .int .i64 x.t] 70)).from _) ((Below.refl _ _).alloc (by omega) _) ⟨blk_old i1, i2.alloc (by omega) _, i3⟩ ⟨_, zz, blk_new rfl, rfl⟩
      simp only [List.setIfInBounds_toArray, List.set_cons_zero, List.set_cons_succ] at h9
      exact h9
    case body1 =>
      rintro l9 pre x a' wq hl9 ⟨rr, hrr⟩ ⟨i1, i2, i3⟩ ⟨Bp, p2, p3, rfl⟩ hlt
      have zq := i2.size
      subst ha
      try simp only [List.setIfInBounds_toArray, List.set_cons_zero, List.set_cons_succ]
      have St8 : Hid (wq.heap[w.heap.size]? = some (.cells #[.int .i64 stop] 3 (0, 0))) := (i2.block _ l7St).trans St7.out
      have R8 : Hid (wq.heap[w.heap.size + 1]? = some (.cells #[.bool false] 4 (0, 0))) := (i2.block _ l7R).trans R7.out
      have PB8 : Hid (wq.heap[w4.heap.size]? = some (.cells #[.slice A5 r.length c5] 59 (0, 0))) := (i2.block _ l7P).trans PB7.out
      have RB8 : Hid (wq.heap[rb9]? = some (.cells #[.int .i64 1] 3 (0, 0))) := (i2.block _ l7RB).trans RB7.out
      have IB8 : Hid (wq.heap[ib]? = some (.cells #[.int .i64 pre.length] 3 (0, 0))) := i1
      have P8 : Hid (wq.heap[Bp]? = some (.cells #[.int .i64 x.f, .int .i64 x.t] 70 (0, 0))) := p3
      obtain ⟨p, hp⟩ : ∃ p, r[pre.length]? = some p := ⟨r[pre.length], List.getElem?_eq_getElem hlt⟩
      obtain ⟨g, off, hA5, hg, j0, j1, j2⟩ := cells3 ((HR5.out.below hv7 (Nat.le_refl _)).below i2 zv6) hp
      subst hA5
      have HP := Lib.hid hp
      have HI2 := Lib.hid i2
      have HI3 := Lib.hid i3
      have xP : wq.cell? ⟨w4.heap.size, 0, none⟩ = some (.slice (some ⟨g, off, none⟩) r.length c5) := cellH PB8 0
      have xI : wq.cell? ⟨ib, 0, none⟩ = some (.int .i64 pre.length) := cellH IB8 0
      have xB0 : wq.cell? ⟨Bp, 0, none⟩ = some (.int .i64 x.f) := cellH P8 0
      have xB1 : wq.cell? ⟨Bp, 1, none⟩ = some (.int .i64 x.t) := cellH P8 1
      have hlt2 : (pre.length : Int) < (r.length : Int) := by omega
      have k2 : (0 : Int) ≤ (pre.length : Int) := by omega
      have k6 : ((pre.length : Int)).toNat = pre.length := by omega
      have hge : decide (r.length ≤ pre.length) = false := decide_eq_false (by omega)
      have hBw := lt_of_H P8
      have zB := zw6
      clear hp i1 i2 i3 p3
      gi_upto_region 18 with fail
      have HCL : Hid (∀ k ∈ [w.heap.size + 1], ∃ cs t z, wq.heap[k]? = some (.cells cs t z)) := by
        intro k hk
        simp only [List.mem_cons, List.not_mem_nil, or_false] at hk
        subst hk
        exact ⟨_, _, _, R8.out⟩
      have HCI : Hid (∀ k ∈ [ib], ∃ cs t z, wq.heap[k]? = some (.cells cs t z)) := by
        intro k hk
        simp only [List.mem_cons, List.not_mem_nil, or_false] at hk
        subst hk
        exact ⟨_, _, _, IB8.out⟩
      by_cases hx1 : x.f = p.f ∧ x.t = p.t
      · obtain ⟨hxf, hxt⟩ := hx1
        have e0 : (x.f == p.f && x.t == p.t) = true := by simp [hxf, hxt]
        by_cases hxv : x.v = p.v
        · have e3 : (x.v != p.v) = false := by simp [hxv]
          have HXP : Hid (x = p) := by show x = p; cases x; cases p; simp_all
          clear hxf hxt hxv
          refine round_held_drew (S := fun w' => w'.cell? ⟨ib, 0, none⟩ = some (.int .i64 pre.length) ∧ w'.cell? ⟨w4.heap.size, 0, none⟩ = some (.slice (some ⟨g, off, none⟩) r.length c5) ∧ w'.cell? ⟨Bp, 0, none⟩ = some (.int .i64 x.f) ∧ w'.cell? ⟨Bp, 1, none⟩ = some (.int .i64 x.t) ∧ w'.cell? ⟨g, off + pre.length * 3, none⟩ = some (.int .i64 p.f) ∧ w'.cell? ⟨g, off + pre.length * 3 + 1, none⟩ = some (.int .i64 p.t) ∧ w'.cell? ⟨g, off + pre.length * 3 + 2, none⟩ = some (.int .i64 p.v)) (by kernel_rfl) (by kernel_rfl) ?_ (fun hH0 => ?_)
          · exact ⟨xI, xP, xB0, xB1, j0, j1, j2⟩
          refine wpAnyH_take (i := 0) (oi := { dst := some 44, op := Go.Op.load 3 (Go.Operand.tmp 11), type := 3, pos := "law.go:284", after := #[], guard := none }) (v := ?_) rfl (by kernel_rfl) (by kernel_rfl) (by kernel_rfl) (fun _ _ _ h => h) (Or.inl ⟨by rfl, ?_⟩) (by assumption) ?_
          rotate_left
          · intro wq hSw; (try dsimp only at hSw); go_simp; (try with_reducible rfl)
          try simp only [Act.put, List.setIfInBounds_toArray, List.set_cons_zero, List.set_cons_succ]
          refine wpAnyH_take (i := 1) (oi := { dst := some 45, op := Go.Op.load 59 (Go.Operand.tmp 8), type := 59, pos := "law.go:284", after := #[], guard := none }) (v := ?_) rfl (by kernel_rfl) (by kernel_rfl) (by kernel_rfl) (fun _ _ _ h => h) (Or.inl ⟨by rfl, ?_⟩) (by assumption) ?_
          rotate_left
          · intro wq hSw; (try dsimp only at hSw); go_simp; (try with_reducible rfl)
          try simp only [Act.put, List.setIfInBounds_toArray, List.set_cons_zero, List.set_cons_succ]
          refine wpAnyH_take (i := 2) (oi := { dst := some 46, op := Go.Op.call { callee := Go.Callee.builtin Go.Builtin.len, args := #[Go.Operand.tmp 45], argTypes := #[59] }, type := 3, pos := "law.go:284", after := #[{ on := 1, ground := Go.Ground.data }], guard := none }) (v := ?_) rfl (by kernel_rfl) (by kernel_rfl) (by kernel_rfl) (fun _ _ _ h => h) (Or.inl ⟨by rfl, ?_⟩) (by assumption) ?_
          rotate_left
          · intro wq hSw; (try dsimp only at hSw); go_simp; (try with_reducible rfl)
          try simp only [Act.put, List.setIfInBounds_toArray, List.set_cons_zero, List.set_cons_succ]
          refine wpAnyH_take (i := 3) (oi := { dst := some 47, op := Go.Op.binOp Go.BinOp.geq 3 (Go.Operand.tmp 44) (Go.Operand.tmp 46) 3, type := 4, pos := "law.go:284", after := #[{ on := 0, ground := Go.Ground.data }, { on := 2, ground := Go.Ground.data }], guard := none }) (v := ?_) rfl (by kernel_rfl) (by kernel_rfl) (by kernel_rfl) (fun _ _ _ h => h) (Or.inl ⟨by rfl, ?_⟩) (by assumption) ?_
          rotate_left
          · intro wq hSw; (try dsimp only at hSw); go_simp; (try with_reducible rfl)
          try simp only [Act.put, List.setIfInBounds_toArray, List.set_cons_zero, List.set_cons_succ]
          refine wpAnyH_take (i := 4) (oi := { dst := some 48, op := Go.Op.move (Go.Operand.tmp 47), type := 4, pos := "law.go:284", after := #[{ on := 3, ground := Go.Ground.data }], guard := none }) (v := ?_) rfl (by kernel_rfl) (by kernel_rfl) (by kernel_rfl) (fun _ _ _ h => h) (Or.inl ⟨by rfl, ?_⟩) (by assumption) ?_
          rotate_left
          · intro wq hSw; (try dsimp only at hSw); go_simp; (try with_reducible rfl)
          try simp only [Act.put, List.setIfInBounds_toArray, List.set_cons_zero, List.set_cons_succ]
          refine wpAnyH_take (i := 5) (oi := { dst := some 49, op := Go.Op.load 70 (Go.Operand.tmp 12), type := 70, pos := "law.go:284", after := #[{ on := 4, ground := Go.Ground.guard }], guard := some (4, false) }) (v := ?_) rfl (by kernel_rfl) (by kernel_rfl) (by kernel_rfl) (fun _ _ _ h => h) (Or.inl ⟨by rfl, ?_⟩) (by assumption) ?_
          rotate_left
          · intro wq hSw; (try dsimp only at hSw); go_simp; (try with_reducible rfl)
          try simp only [Act.put, List.setIfInBounds_toArray, List.set_cons_zero, List.set_cons_succ]
          refine wpAnyH_take (i := 6) (oi := { dst := some 50, op := Go.Op.load 59 (Go.Operand.tmp 8), type := 59, pos := "law.go:284", after := #[{ on := 4, ground := Go.Ground.guard }], guard := some (4, false) }) (v := ?_) rfl (by kernel_rfl) (by kernel_rfl) (by kernel_rfl) (fun _ _ _ h => h) (Or.inl ⟨by rfl, ?_⟩) (by assumption) ?_
          rotate_left
          · intro wq hSw; (try dsimp only at hSw); go_simp; (try with_reducible rfl)
          try simp only [Act.put, List.setIfInBounds_toArray, List.set_cons_zero, List.set_cons_succ]
          refine wpAnyH_take (i := 7) (oi := { dst := some 51, op := Go.Op.load 3 (Go.Operand.tmp 11), type := 3, pos := "law.go:284", after := #[{ on := 4, ground := Go.Ground.guard }], guard := some (4, false) }) (v := ?_) rfl (by kernel_rfl) (by kernel_rfl) (by kernel_rfl) (fun _ _ _ h => h) (Or.inl ⟨by rfl, ?_⟩) (by assumption) ?_
          rotate_left
          · intro wq hSw; (try dsimp only at hSw); go_simp; (try with_reducible rfl)
          try simp only [Act.put, List.setIfInBounds_toArray, List.set_cons_zero, List.set_cons_succ]
          refine wpAnyH_take (i := 8) (oi := { dst := some 52, op := Go.Op.indexAddr 59 (Go.Operand.tmp 50) (Go.Operand.tmp 51), type := 0, pos := "law.go:284", after := #[{ on := 6, ground := Go.Ground.data }, { on := 7, ground := Go.Ground.data }, { on := 4, ground := Go.Ground.guard }], guard := some (4, false) }) (v := ?_) rfl (by kernel_rfl) (by kernel_rfl) (by kernel_rfl) (fun _ _ _ h => h) (Or.inl ⟨by rfl, ?_⟩) (by assumption) ?_
          rotate_left
          · intro wq hSw; (try dsimp only at hSw); go_simp; (try with_reducible rfl)
          try simp only [Act.put, List.setIfInBounds_toArray, List.set_cons_zero, List.set_cons_succ]
          refine wpAnyH_take (i := 9) (oi := { dst := some 53, op := Go.Op.fieldAddr 73 (Go.Operand.tmp 52) 0, type := 0, pos := "law.go:284", after := #[{ on := 8, ground := Go.Ground.data }, { on := 4, ground := Go.Ground.guard }], guard := some (4, false) }) (v := ?_) rfl (by kernel_rfl) (by kernel_rfl) (by kernel_rfl) (fun _ _ _ h => h) (Or.inl ⟨by rfl, ?_⟩) (by assumption) ?_
          rotate_left
          · intro wq hSw; (try dsimp only at hSw); go_simp; (try with_reducible rfl)
          try simp only [Act.put, List.setIfInBounds_toArray, List.set_cons_zero, List.set_cons_succ]
          refine wpAnyH_take (i := 10) (oi := { dst := some 54, op := Go.Op.load 70 (Go.Operand.tmp 53), type := 70, pos := "law.go:284", after := #[{ on := 9, ground := Go.Ground.data }, { on := 4, ground := Go.Ground.guard }], guard := some (4, false) }) (v := ?_) rfl (by kernel_rfl) (by kernel_rfl) (by kernel_rfl) (fun _ _ _ h => h) (Or.inl ⟨by rfl, ?_⟩) (by assumption) ?_
          rotate_left
          · intro wq hSw; (try dsimp only at hSw); go_simp; (try with_reducible rfl)
          try simp only [Act.put, List.setIfInBounds_toArray, List.set_cons_zero, List.set_cons_succ]
          refine wpAnyH_ready (rs := [11]) (by kernel_rfl) (by simp) ?_
          refine AllReadyH.cons (o := { dst := some 55, op := Go.Op.call { callee := Go.Callee.value (Go.Operand.func 38), args := #[Go.Operand.tmp 49, Go.Operand.tmp 54], argTypes := #[70, 70] }, type := 4, pos := "law.go:284", after := #[{ on := 5, ground := Go.Ground.data }, { on := 10, ground := Go.Ground.data }, { on := 4, ground := Go.Ground.chain }, { on := 4, ground := Go.Ground.guard }], guard := some (4, false) }) rfl (fun K hK => ?_) ?_
          rotate_left
          · exact AllReadyH.nil
          go_simp
          refine (sameSpan_any _ _ _ _ _ true (e0)).mono ?_
          rintro e w2 ⟨rfl, hb2⟩
          have hoI : OnlyL [ib] wq w2 := OnlyL.step (by (repeat' (first | with_reducible exact OnlyL.refl _ _ | with_reducible assumption | with_reducible refine OnlyL.drew ?_ | with_reducible refine OnlyL.drewN ?_ _ | with_reducible refine OnlyL.setCell ?_ ?_ _ | with_reducible refine OnlyL.alloc ?_ _ | omega | (simp; done) | (simp; omega)))) hb2
          have hoW : OnlyL [w.heap.size + 1] wq w2 := OnlyL.step (by (repeat' (first | with_reducible exact OnlyL.refl _ _ | with_reducible assumption | with_reducible refine OnlyL.drew ?_ | with_reducible refine OnlyL.drewN ?_ _ | with_reducible refine OnlyL.setCell ?_ ?_ _ | with_reducible refine OnlyL.alloc ?_ _ | omega | (simp; done) | (simp; omega)))) hb2
          replace xI : w2.cell? ⟨ib, 0, none⟩ = some (.int .i64 pre.length) := cellOf hb2 (cell_drew xI)
          replace xP : w2.cell? ⟨w4.heap.size, 0, none⟩ = some (.slice (some ⟨g, off, none⟩) r.length c5) := cellOf hb2 (cell_drew xP)
          replace xB0 : w2.cell? ⟨Bp, 0, none⟩ = some (.int .i64 x.f) := cellOf hb2 (cell_drew xB0)
          replace xB1 : w2.cell? ⟨Bp, 1, none⟩ = some (.int .i64 x.t) := cellOf hb2 (cell_drew xB1)
          replace j0 : w2.cell? ⟨g, off + pre.length * 3, none⟩ = some (.int .i64 p.f) := cellOf hb2 (cell_drew j0)
          replace j1 : w2.cell? ⟨g, off + pre.length * 3 + 1, none⟩ = some (.int .i64 p.t) := cellOf hb2 (cell_drew j1)
          replace j2 : w2.cell? ⟨g, off + pre.length * 3 + 2, none⟩ = some (.int .i64 p.v) := cellOf hb2 (cell_drew j2)
          have RB9 := keepH hb2 (drew_old RB8.out)
          have St9 := keepH hb2 (drew_old St8.out)
          have R9 := keepH hb2 (drew_old R8.out)
          have IB9 := keepH hb2 (drew_old IB8.out)
          go_wp2_with fail
          refine hK.out _ _ ?_ (fun hH1 => ?_)
          · (try dsimp only); exact ⟨xI, xP, xB0, xB1, j0, j1, j2⟩
          clear hK K
          clear hH0
          try simp only [Act.put, List.setIfInBounds_toArray, List.set_cons_zero, List.set_cons_succ]
          refine wpAnyH_take (i := 12) (oi := { dst := some 56, op := Go.Op.unOp Go.UnOp.not 4 (Go.Operand.tmp 55), type := 4, pos := "law.go:284", after := #[{ on := 11, ground := Go.Ground.data }, { on := 4, ground := Go.Ground.guard }], guard := some (4, false) }) (v := ?_) rfl (by kernel_rfl) (by kernel_rfl) (by kernel_rfl) (fun _ _ _ h => h) (Or.inl ⟨by rfl, ?_⟩) (by assumption) ?_
          rotate_left
          · intro wq hSw; (try dsimp only at hSw); go_simp; (try with_reducible rfl)
          try simp only [Act.put, List.setIfInBounds_toArray, List.set_cons_zero, List.set_cons_succ]
          refine wpAnyH_take (i := 13) (oi := { dst := some 57, op := Go.Op.pick (Go.Operand.tmp 48) (Go.Operand.const (Go.Value.bool true)) (Go.Operand.tmp 56), type := 4, pos := "law.go:284", after := #[{ on := 4, ground := Go.Ground.data }, { on := 12, ground := Go.Ground.data }], guard := none }) (v := ?_) rfl (by kernel_rfl) (by kernel_rfl) (by kernel_rfl) (fun _ _ _ h => h) (Or.inl ⟨by rfl, ?_⟩) (by assumption) ?_
          rotate_left
          · intro wq hSw; (try dsimp only at hSw); go_simp; (try with_reducible rfl)
          try simp only [Act.put, List.setIfInBounds_toArray, List.set_cons_zero, List.set_cons_succ]
          refine wpAnyH_take (i := 14) (oi := { dst := some 58, op := Go.Op.move (Go.Operand.tmp 57), type := 4, pos := "law.go:284", after := #[{ on := 13, ground := Go.Ground.data }, { on := 11, ground := Go.Ground.chain }], guard := none }) (v := ?_) rfl (by kernel_rfl) (by kernel_rfl) (by kernel_rfl) (fun _ _ _ h => h) (Or.inl ⟨by rfl, ?_⟩) (by assumption) ?_
          rotate_left
          · intro wq hSw; (try dsimp only at hSw); go_simp; (try with_reducible rfl)
          try simp only [Act.put, List.setIfInBounds_toArray, List.set_cons_zero, List.set_cons_succ]
          refine wpAnyH_take (i := 15) (oi := { dst := some 59, op := Go.Op.move (Go.Operand.tmp 13), type := 3, pos := "law.go:284", after := #[{ on := 14, ground := Go.Ground.guard }], guard := some (14, false) }) (v := ?_) rfl (by kernel_rfl) (by kernel_rfl) (by kernel_rfl) (fun _ _ _ h => h) (Or.inl ⟨by rfl, ?_⟩) (by assumption) ?_
          rotate_left
          · intro wq hSw; (try dsimp only at hSw); go_simp; (try with_reducible rfl)
          try simp only [Act.put, List.setIfInBounds_toArray, List.set_cons_zero, List.set_cons_succ]
          refine wpAnyH_take (i := 16) (oi := { dst := some 60, op := Go.Op.load 59 (Go.Operand.tmp 8), type := 59, pos := "law.go:284", after := #[{ on := 14, ground := Go.Ground.guard }], guard := some (14, false) }) (v := ?_) rfl (by kernel_rfl) (by kernel_rfl) (by kernel_rfl) (fun _ _ _ h => h) (Or.inl ⟨by rfl, ?_⟩) (by assumption) ?_
          rotate_left
          · intro wq hSw; (try dsimp only at hSw); go_simp; (try with_reducible rfl)
          try simp only [Act.put, List.setIfInBounds_toArray, List.set_cons_zero, List.set_cons_succ]
          refine wpAnyH_take (i := 17) (oi := { dst := some 61, op := Go.Op.load 3 (Go.Operand.tmp 11), type := 3, pos := "law.go:284", after := #[{ on := 14, ground := Go.Ground.guard }], guard := some (14, false) }) (v := ?_) rfl (by kernel_rfl) (by kernel_rfl) (by kernel_rfl) (fun _ _ _ h => h) (Or.inl ⟨by rfl, ?_⟩) (by assumption) ?_
          rotate_left
          · intro wq hSw; (try dsimp only at hSw); go_simp; (try with_reducible rfl)
          try simp only [Act.put, List.setIfInBounds_toArray, List.set_cons_zero, List.set_cons_succ]
          refine wpAnyH_take (i := 18) (oi := { dst := some 62, op := Go.Op.indexAddr 59 (Go.Operand.tmp 60) (Go.Operand.tmp 61), type := 0, pos := "law.go:284", after := #[{ on := 16, ground := Go.Ground.data }, { on := 17, ground := Go.Ground.data }, { on := 14, ground := Go.Ground.guard }], guard := some (14, false) }) (v := ?_) rfl (by kernel_rfl) (by kernel_rfl) (by kernel_rfl) (fun _ _ _ h => h) (Or.inl ⟨by rfl, ?_⟩) (by assumption) ?_
          rotate_left
          · intro wq hSw; (try dsimp only at hSw); go_simp; (try with_reducible rfl)
          try simp only [Act.put, List.setIfInBounds_toArray, List.set_cons_zero, List.set_cons_succ]
          refine wpAnyH_take (i := 19) (oi := { dst := some 63, op := Go.Op.fieldAddr 73 (Go.Operand.tmp 62) 1, type := 0, pos := "law.go:284", after := #[{ on := 18, ground := Go.Ground.data }, { on := 14, ground := Go.Ground.guard }], guard := some (14, false) }) (v := ?_) rfl (by kernel_rfl) (by kernel_rfl) (by kernel_rfl) (fun _ _ _ h => h) (Or.inl ⟨by rfl, ?_⟩) (by assumption) ?_
          rotate_left
          · intro wq hSw; (try dsimp only at hSw); go_simp; (try with_reducible rfl)
          try simp only [Act.put, List.setIfInBounds_toArray, List.set_cons_zero, List.set_cons_succ]
          refine wpAnyH_take (i := 20) (oi := { dst := some 64, op := Go.Op.load 3 (Go.Operand.tmp 63), type := 3, pos := "law.go:284", after := #[{ on := 19, ground := Go.Ground.data }, { on := 14, ground := Go.Ground.guard }], guard := some (14, false) }) (v := ?_) rfl (by kernel_rfl) (by kernel_rfl) (by kernel_rfl) (fun _ _ _ h => h) (Or.inl ⟨by rfl, ?_⟩) (by assumption) ?_
          rotate_left
          · intro wq hSw; (try dsimp only at hSw); go_simp; (try with_reducible rfl)
          try simp only [Act.put, List.setIfInBounds_toArray, List.set_cons_zero, List.set_cons_succ]
          refine wpAnyH_take (i := 21) (oi := { dst := some 65, op := Go.Op.binOp Go.BinOp.neq 3 (Go.Operand.tmp 59) (Go.Operand.tmp 64) 3, type := 4, pos := "law.go:284", after := #[{ on := 15, ground := Go.Ground.data }, { on := 20, ground := Go.Ground.data }, { on := 14, ground := Go.Ground.guard }], guard := some (14, false) }) (v := ?_) rfl (by kernel_rfl) (by kernel_rfl) (by kernel_rfl) (fun _ _ _ h => h) (Or.inl ⟨by rfl, ?_⟩) (by assumption) ?_
          rotate_left
          · intro wq hSw; (try dsimp only at hSw); go_simp; (try with_reducible rfl)
          try simp only [Act.put, List.setIfInBounds_toArray, List.set_cons_zero, List.set_cons_succ]
          refine wpAnyH_take (i := 22) (oi := { dst := some 66, op := Go.Op.pick (Go.Operand.tmp 58) (Go.Operand.const (Go.Value.bool true)) (Go.Operand.tmp 65), type := 4, pos := "law.go:284", after := #[{ on := 14, ground := Go.Ground.data }, { on := 21, ground := Go.Ground.data }], guard := none }) (v := ?_) rfl (by kernel_rfl) (by kernel_rfl) (by kernel_rfl) (fun _ _ _ h => h) (Or.inl ⟨by rfl, ?_⟩) (by assumption) ?_
          rotate_left
          · intro wq hSw; (try dsimp only at hSw); go_simp; (try with_reducible rfl)
          try simp only [Act.put, List.setIfInBounds_toArray, List.set_cons_zero, List.set_cons_succ]
          refine wpAnyH_done (by kernel_rfl) ?_ _
          refine noOut_normal ?_
          have hoI2 : OnlyL [ib] wq (w2.setCell ⟨ib, 0, none⟩ (.int .i64 ((pre.length : Int) + 1))) := OnlyL.setCell hoI (.inl (List.mem_singleton.2 rfl)) _
          have HLI : Hid (LiI r ib w7 (pre ++ [x]) (w2.setCell ⟨ib, 0, none⟩ (.int .i64 ((pre.length : Int) + 1)))) := by
            refine ⟨?_, HI2.out.trans (OnlyL.below hoI2 (by omega) (fun k hk => by rw [List.mem_singleton.1 hk]; exact Nat.le_refl _)), ?_⟩
            · rw [show ((pre ++ [x]).length : Int) = (pre.length : Int) + 1 by simp]
              exact setBox IB9.out _
            · rw [List.length_append, List.length_singleton, HXP.out, take_snoc HP.out, ← HI3.out]
          have HKF := Lib.hid (OnlyL.from hoI2 w7.heap.size HCI.out)
          have HKB := Lib.hid (OnlyL.below hoI2 (m := ib) (by omega) (fun k hk => by rw [List.mem_singleton.1 hk]; exact Nat.le_refl _))
          have cI9 := cellH IB9
          have fI9 := frozH IB9
          have cB9 := cellH RB9
          have cS9 := cellH St9
          have n1 : ib ≠ rb9 := by omega
          have n2 : ib ≠ w.heap.size := by omega
          have kw : IntKind.i64.wrap ((pre.length : Int) + 1) = (pre.length : Int) + 1 := by rw [IntKind.wrap_i64]; omega
          clear RB9 St9 IB9 R9 hH1 xI xP xB0 xB1 j0 j1 j2
          gi_wp2_with fail
          exact ⟨HKF.out, HKB.out, HLI.out⟩
        · have e3 : (x.v != p.v) = true := by simp [hxv]
          have HXP : Hid (¬ x = p) := fun h => hxv (by rw [h])
          clear hxf hxt hxv
          refine round_held_drew (S := fun w' => w'.cell? ⟨ib, 0, none⟩ = some (.int .i64 pre.length) ∧ w'.cell? ⟨w4.heap.size, 0, none⟩ = some (.slice (some ⟨g, off, none⟩) r.length c5) ∧ w'.cell? ⟨Bp, 0, none⟩ = some (.int .i64 x.f) ∧ w'.cell? ⟨Bp, 1, none⟩ = some (.int .i64 x.t) ∧ w'.cell? ⟨g, off + pre.length * 3, none⟩ = some (.int .i64 p.f) ∧ w'.cell? ⟨g, off + pre.length * 3 + 1, none⟩ = some (.int .i64 p.t) ∧ w'.cell? ⟨g, off + pre.length * 3 + 2, none⟩ = some (.int .i64 p.v)) (by kernel_rfl) (by kernel_rfl) ?_ (fun hH0 => ?_)
          · exact ⟨xI, xP, xB0, xB1, j0, j1, j2⟩
          refine wpAnyH_take (i := 0) (oi := { dst := some 44, op := Go.Op.load 3 (Go.Operand.tmp 11), type := 3, pos := "law.go:284", after := #[], guard := none }) (v := ?_) rfl (by kernel_rfl) (by kernel_rfl) (by kernel_rfl) (fun _ _ _ h => h) (Or.inl ⟨by rfl, ?_⟩) (by assumption) ?_
          rotate_left
          · intro wq hSw; (try dsimp only at hSw); go_simp; (try with_reducible rfl)
          try simp only [Act.put, List.setIfInBounds_toArray, List.set_cons_zero, List.set_cons_succ]
          refine wpAnyH_take (i := 1) (oi := { dst := some 45, op := Go.Op.load 59 (Go.Operand.tmp 8), type := 59, pos := "law.go:284", after := #[], guard := none }) (v := ?_) rfl (by kernel_rfl) (by kernel_rfl) (by kernel_rfl) (fun _ _ _ h => h) (Or.inl ⟨by rfl, ?_⟩) (by assumption) ?_
          rotate_left
          · intro wq hSw; (try dsimp only at hSw); go_simp; (try with_reducible rfl)
          try simp only [Act.put, List.setIfInBounds_toArray, List.set_cons_zero, List.set_cons_succ]
          refine wpAnyH_take (i := 2) (oi := { dst := some 46, op := Go.Op.call { callee := Go.Callee.builtin Go.Builtin.len, args := #[Go.Operand.tmp 45], argTypes := #[59] }, type := 3, pos := "law.go:284", after := #[{ on := 1, ground := Go.Ground.data }], guard := none }) (v := ?_) rfl (by kernel_rfl) (by kernel_rfl) (by kernel_rfl) (fun _ _ _ h => h) (Or.inl ⟨by rfl, ?_⟩) (by assumption) ?_
          rotate_left
          · intro wq hSw; (try dsimp only at hSw); go_simp; (try with_reducible rfl)
          try simp only [Act.put, List.setIfInBounds_toArray, List.set_cons_zero, List.set_cons_succ]
          refine wpAnyH_take (i := 3) (oi := { dst := some 47, op := Go.Op.binOp Go.BinOp.geq 3 (Go.Operand.tmp 44) (Go.Operand.tmp 46) 3, type := 4, pos := "law.go:284", after := #[{ on := 0, ground := Go.Ground.data }, { on := 2, ground := Go.Ground.data }], guard := none }) (v := ?_) rfl (by kernel_rfl) (by kernel_rfl) (by kernel_rfl) (fun _ _ _ h => h) (Or.inl ⟨by rfl, ?_⟩) (by assumption) ?_
          rotate_left
          · intro wq hSw; (try dsimp only at hSw); go_simp; (try with_reducible rfl)
          try simp only [Act.put, List.setIfInBounds_toArray, List.set_cons_zero, List.set_cons_succ]
          refine wpAnyH_take (i := 4) (oi := { dst := some 48, op := Go.Op.move (Go.Operand.tmp 47), type := 4, pos := "law.go:284", after := #[{ on := 3, ground := Go.Ground.data }], guard := none }) (v := ?_) rfl (by kernel_rfl) (by kernel_rfl) (by kernel_rfl) (fun _ _ _ h => h) (Or.inl ⟨by rfl, ?_⟩) (by assumption) ?_
          rotate_left
          · intro wq hSw; (try dsimp only at hSw); go_simp; (try with_reducible rfl)
          try simp only [Act.put, List.setIfInBounds_toArray, List.set_cons_zero, List.set_cons_succ]
          refine wpAnyH_take (i := 5) (oi := { dst := some 49, op := Go.Op.load 70 (Go.Operand.tmp 12), type := 70, pos := "law.go:284", after := #[{ on := 4, ground := Go.Ground.guard }], guard := some (4, false) }) (v := ?_) rfl (by kernel_rfl) (by kernel_rfl) (by kernel_rfl) (fun _ _ _ h => h) (Or.inl ⟨by rfl, ?_⟩) (by assumption) ?_
          rotate_left
          · intro wq hSw; (try dsimp only at hSw); go_simp; (try with_reducible rfl)
          try simp only [Act.put, List.setIfInBounds_toArray, List.set_cons_zero, List.set_cons_succ]
          refine wpAnyH_take (i := 6) (oi := { dst := some 50, op := Go.Op.load 59 (Go.Operand.tmp 8), type := 59, pos := "law.go:284", after := #[{ on := 4, ground := Go.Ground.guard }], guard := some (4, false) }) (v := ?_) rfl (by kernel_rfl) (by kernel_rfl) (by kernel_rfl) (fun _ _ _ h => h) (Or.inl ⟨by rfl, ?_⟩) (by assumption) ?_
          rotate_left
          · intro wq hSw; (try dsimp only at hSw); go_simp; (try with_reducible rfl)
          try simp only [Act.put, List.setIfInBounds_toArray, List.set_cons_zero, List.set_cons_succ]
          refine wpAnyH_take (i := 7) (oi := { dst := some 51, op := Go.Op.load 3 (Go.Operand.tmp 11), type := 3, pos := "law.go:284", after := #[{ on := 4, ground := Go.Ground.guard }], guard := some (4, false) }) (v := ?_) rfl (by kernel_rfl) (by kernel_rfl) (by kernel_rfl) (fun _ _ _ h => h) (Or.inl ⟨by rfl, ?_⟩) (by assumption) ?_
          rotate_left
          · intro wq hSw; (try dsimp only at hSw); go_simp; (try with_reducible rfl)
          try simp only [Act.put, List.setIfInBounds_toArray, List.set_cons_zero, List.set_cons_succ]
          refine wpAnyH_take (i := 8) (oi := { dst := some 52, op := Go.Op.indexAddr 59 (Go.Operand.tmp 50) (Go.Operand.tmp 51), type := 0, pos := "law.go:284", after := #[{ on := 6, ground := Go.Ground.data }, { on := 7, ground := Go.Ground.data }, { on := 4, ground := Go.Ground.guard }], guard := some (4, false) }) (v := ?_) rfl (by kernel_rfl) (by kernel_rfl) (by kernel_rfl) (fun _ _ _ h => h) (Or.inl ⟨by rfl, ?_⟩) (by assumption) ?_
          rotate_left
          · intro wq hSw; (try dsimp only at hSw); go_simp; (try with_reducible rfl)
          try simp only [Act.put, List.setIfInBounds_toArray, List.set_cons_zero, List.set_cons_succ]
          refine wpAnyH_take (i := 9) (oi := { dst := some 53, op := Go.Op.fieldAddr 73 (Go.Operand.tmp 52) 0, type := 0, pos := "law.go:284", after := #[{ on := 8, ground := Go.Ground.data }, { on := 4, ground := Go.Ground.guard }], guard := some (4, false) }) (v := ?_) rfl (by kernel_rfl) (by kernel_rfl) (by kernel_rfl) (fun _ _ _ h => h) (Or.inl ⟨by rfl, ?_⟩) (by assumption) ?_
          rotate_left
          · intro wq hSw; (try dsimp only at hSw); go_simp; (try with_reducible rfl)
          try simp only [Act.put, List.setIfInBounds_toArray, List.set_cons_zero, List.set_cons_succ]
          refine wpAnyH_take (i := 10) (oi := { dst := some 54, op := Go.Op.load 70 (Go.Operand.tmp 53), type := 70, pos := "law.go:284", after := #[{ on := 9, ground := Go.Ground.data }, { on := 4, ground := Go.Ground.guard }], guard := some (4, false) }) (v := ?_) rfl (by kernel_rfl) (by kernel_rfl) (by kernel_rfl) (fun _ _ _ h => h) (Or.inl ⟨by rfl, ?_⟩) (by assumption) ?_
          rotate_left
          · intro wq hSw; (try dsimp only at hSw); go_simp; (try with_reducible rfl)
          try simp only [Act.put, List.setIfInBounds_toArray, List.set_cons_zero, List.set_cons_succ]
          refine wpAnyH_ready (rs := [11]) (by kernel_rfl) (by simp) ?_
          refine AllReadyH.cons (o := { dst := some 55, op := Go.Op.call { callee := Go.Callee.value (Go.Operand.func 38), args := #[Go.Operand.tmp 49, Go.Operand.tmp 54], argTypes := #[70, 70] }, type := 4, pos := "law.go:284", after := #[{ on := 5, ground := Go.Ground.data }, { on := 10, ground := Go.Ground.data }, { on := 4, ground := Go.Ground.chain }, { on := 4, ground := Go.Ground.guard }], guard := some (4, false) }) rfl (fun K hK => ?_) ?_
          rotate_left
          · exact AllReadyH.nil
          go_simp
          refine (sameSpan_any _ _ _ _ _ true (e0)).mono ?_
          rintro e w2 ⟨rfl, hb2⟩
          have hoI : OnlyL [ib] wq w2 := OnlyL.step (by (repeat' (first | with_reducible exact OnlyL.refl _ _ | with_reducible assumption | with_reducible refine OnlyL.drew ?_ | with_reducible refine OnlyL.drewN ?_ _ | with_reducible refine OnlyL.setCell ?_ ?_ _ | with_reducible refine OnlyL.alloc ?_ _ | omega | (simp; done) | (simp; omega)))) hb2
          have hoW : OnlyL [w.heap.size + 1] wq w2 := OnlyL.step (by (repeat' (first | with_reducible exact OnlyL.refl _ _ | with_reducible assumption | with_reducible refine OnlyL.drew ?_ | with_reducible refine OnlyL.drewN ?_ _ | with_reducible refine OnlyL.setCell ?_ ?_ _ | with_reducible refine OnlyL.alloc ?_ _ | omega | (simp; done) | (simp; omega)))) hb2
          replace xI : w2.cell? ⟨ib, 0, none⟩ = some (.int .i64 pre.length) := cellOf hb2 (cell_drew xI)
          replace xP : w2.cell? ⟨w4.heap.size, 0, none⟩ = some (.slice (some ⟨g, off, none⟩) r.length c5) := cellOf hb2 (cell_drew xP)
          replace xB0 : w2.cell? ⟨Bp, 0, none⟩ = some (.int .i64 x.f) := cellOf hb2 (cell_drew xB0)
          replace xB1 : w2.cell? ⟨Bp, 1, none⟩ = some (.int .i64 x.t) := cellOf hb2 (cell_drew xB1)
          replace j0 : w2.cell? ⟨g, off + pre.length * 3, none⟩ = some (.int .i64 p.f) := cellOf hb2 (cell_drew j0)
          replace j1 : w2.cell? ⟨g, off + pre.length * 3 + 1, none⟩ = some (.int .i64 p.t) := cellOf hb2 (cell_drew j1)
          replace j2 : w2.cell? ⟨g, off + pre.length * 3 + 2, none⟩ = some (.int .i64 p.v) := cellOf hb2 (cell_drew j2)
          have RB9 := keepH hb2 (drew_old RB8.out)
          have St9 := keepH hb2 (drew_old St8.out)
          have R9 := keepH hb2 (drew_old R8.out)
          have IB9 := keepH hb2 (drew_old IB8.out)
          go_wp2_with fail
          refine hK.out _ _ ?_ (fun hH1 => ?_)
          · (try dsimp only); exact ⟨xI, xP, xB0, xB1, j0, j1, j2⟩
          clear hK K
          clear hH0
          try simp only [Act.put, List.setIfInBounds_toArray, List.set_cons_zero, List.set_cons_succ]
          refine wpAnyH_take (i := 12) (oi := { dst := some 56, op := Go.Op.unOp Go.UnOp.not 4 (Go.Operand.tmp 55), type := 4, pos := "law.go:284", after := #[{ on := 11, ground := Go.Ground.data }, { on := 4, ground := Go.Ground.guard }], guard := some (4, false) }) (v := ?_) rfl (by kernel_rfl) (by kernel_rfl) (by kernel_rfl) (fun _ _ _ h => h) (Or.inl ⟨by rfl, ?_⟩) (by assumption) ?_
          rotate_left
          · intro wq hSw; (try dsimp only at hSw); go_simp; (try with_reducible rfl)
          try simp only [Act.put, List.setIfInBounds_toArray, List.set_cons_zero, List.set_cons_succ]
          refine wpAnyH_take (i := 13) (oi := { dst := some 57, op := Go.Op.pick (Go.Operand.tmp 48) (Go.Operand.const (Go.Value.bool true)) (Go.Operand.tmp 56), type := 4, pos := "law.go:284", after := #[{ on := 4, ground := Go.Ground.data }, { on := 12, ground := Go.Ground.data }], guard := none }) (v := ?_) rfl (by kernel_rfl) (by kernel_rfl) (by kernel_rfl) (fun _ _ _ h => h) (Or.inl ⟨by rfl, ?_⟩) (by assumption) ?_
          rotate_left
          · intro wq hSw; (try dsimp only at hSw); go_simp; (try with_reducible rfl)
          try simp only [Act.put, List.setIfInBounds_toArray, List.set_cons_zero, List.set_cons_succ]
          refine wpAnyH_take (i := 14) (oi := { dst := some 58, op := Go.Op.move (Go.Operand.tmp 57), type := 4, pos := "law.go:284", after := #[{ on := 13, ground := Go.Ground.data }, { on := 11, ground := Go.Ground.chain }], guard := none }) (v := ?_) rfl (by kernel_rfl) (by kernel_rfl) (by kernel_rfl) (fun _ _ _ h => h) (Or.inl ⟨by rfl, ?_⟩) (by assumption) ?_
          rotate_left
          · intro wq hSw; (try dsimp only at hSw); go_simp; (try with_reducible rfl)
          try simp only [Act.put, List.setIfInBounds_toArray, List.set_cons_zero, List.set_cons_succ]
          refine wpAnyH_take (i := 15) (oi := { dst := some 59, op := Go.Op.move (Go.Operand.tmp 13), type := 3, pos := "law.go:284", after := #[{ on := 14, ground := Go.Ground.guard }], guard := some (14, false) }) (v := ?_) rfl (by kernel_rfl) (by kernel_rfl) (by kernel_rfl) (fun _ _ _ h => h) (Or.inl ⟨by rfl, ?_⟩) (by assumption) ?_
          rotate_left
          · intro wq hSw; (try dsimp only at hSw); go_simp; (try with_reducible rfl)
          try simp only [Act.put, List.setIfInBounds_toArray, List.set_cons_zero, List.set_cons_succ]
          refine wpAnyH_take (i := 16) (oi := { dst := some 60, op := Go.Op.load 59 (Go.Operand.tmp 8), type := 59, pos := "law.go:284", after := #[{ on := 14, ground := Go.Ground.guard }], guard := some (14, false) }) (v := ?_) rfl (by kernel_rfl) (by kernel_rfl) (by kernel_rfl) (fun _ _ _ h => h) (Or.inl ⟨by rfl, ?_⟩) (by assumption) ?_
          rotate_left
          · intro wq hSw; (try dsimp only at hSw); go_simp; (try with_reducible rfl)
          try simp only [Act.put, List.setIfInBounds_toArray, List.set_cons_zero, List.set_cons_succ]
          refine wpAnyH_take (i := 17) (oi := { dst := some 61, op := Go.Op.load 3 (Go.Operand.tmp 11), type := 3, pos := "law.go:284", after := #[{ on := 14, ground := Go.Ground.guard }], guard := some (14, false) }) (v := ?_) rfl (by kernel_rfl) (by kernel_rfl) (by kernel_rfl) (fun _ _ _ h => h) (Or.inl ⟨by rfl, ?_⟩) (by assumption) ?_
          rotate_left
          · intro wq hSw; (try dsimp only at hSw); go_simp; (try with_reducible rfl)
          try simp only [Act.put, List.setIfInBounds_toArray, List.set_cons_zero, List.set_cons_succ]
          refine wpAnyH_take (i := 18) (oi := { dst := some 62, op := Go.Op.indexAddr 59 (Go.Operand.tmp 60) (Go.Operand.tmp 61), type := 0, pos := "law.go:284", after := #[{ on := 16, ground := Go.Ground.data }, { on := 17, ground := Go.Ground.data }, { on := 14, ground := Go.Ground.guard }], guard := some (14, false) }) (v := ?_) rfl (by kernel_rfl) (by kernel_rfl) (by kernel_rfl) (fun _ _ _ h => h) (Or.inl ⟨by rfl, ?_⟩) (by assumption) ?_
          rotate_left
          · intro wq hSw; (try dsimp only at hSw); go_simp; (try with_reducible rfl)
          try simp only [Act.put, List.setIfInBounds_toArray, List.set_cons_zero, List.set_cons_succ]
          refine wpAnyH_take (i := 19) (oi := { dst := some 63, op := Go.Op.fieldAddr 73 (Go.Operand.tmp 62) 1, type := 0, pos := "law.go:284", after := #[{ on := 18, ground := Go.Ground.data }, { on := 14, ground := Go.Ground.guard }], guard := some (14, false) }) (v := ?_) rfl (by kernel_rfl) (by kernel_rfl) (by kernel_rfl) (fun _ _ _ h => h) (Or.inl ⟨by rfl, ?_⟩) (by assumption) ?_
          rotate_left
          · intro wq hSw; (try dsimp only at hSw); go_simp; (try with_reducible rfl)
          try simp only [Act.put, List.setIfInBounds_toArray, List.set_cons_zero, List.set_cons_succ]
          refine wpAnyH_take (i := 20) (oi := { dst := some 64, op := Go.Op.load 3 (Go.Operand.tmp 63), type := 3, pos := "law.go:284", after := #[{ on := 19, ground := Go.Ground.data }, { on := 14, ground := Go.Ground.guard }], guard := some (14, false) }) (v := ?_) rfl (by kernel_rfl) (by kernel_rfl) (by kernel_rfl) (fun _ _ _ h => h) (Or.inl ⟨by rfl, ?_⟩) (by assumption) ?_
          rotate_left
          · intro wq hSw; (try dsimp only at hSw); go_simp; (try with_reducible rfl)
          try simp only [Act.put, List.setIfInBounds_toArray, List.set_cons_zero, List.set_cons_succ]
          refine wpAnyH_take (i := 21) (oi := { dst := some 65, op := Go.Op.binOp Go.BinOp.neq 3 (Go.Operand.tmp 59) (Go.Operand.tmp 64) 3, type := 4, pos := "law.go:284", after := #[{ on := 15, ground := Go.Ground.data }, { on := 20, ground := Go.Ground.data }, { on := 14, ground := Go.Ground.guard }], guard := some (14, false) }) (v := ?_) rfl (by kernel_rfl) (by kernel_rfl) (by kernel_rfl) (fun _ _ _ h => h) (Or.inl ⟨by rfl, ?_⟩) (by assumption) ?_
          rotate_left
          · intro wq hSw; (try dsimp only at hSw); go_simp; (try with_reducible rfl)
          try simp only [Act.put, List.setIfInBounds_toArray, List.set_cons_zero, List.set_cons_succ]
          refine wpAnyH_take (i := 22) (oi := { dst := some 66, op := Go.Op.pick (Go.Operand.tmp 58) (Go.Operand.const (Go.Value.bool true)) (Go.Operand.tmp 65), type := 4, pos := "law.go:284", after := #[{ on := 14, ground := Go.Ground.data }, { on := 21, ground := Go.Ground.data }], guard := none }) (v := ?_) rfl (by kernel_rfl) (by kernel_rfl) (by kernel_rfl) (fun _ _ _ h => h) (Or.inl ⟨by rfl, ?_⟩) (by assumption) ?_
          rotate_left
          · intro wq hSw; (try dsimp only at hSw); go_simp; (try with_reducible rfl)
          try simp only [Act.put, List.setIfInBounds_toArray, List.set_cons_zero, List.set_cons_succ]
          refine wpAnyH_done (by kernel_rfl) ?_ _
          refine noOut_normal ?_
          have cR9 := cellH R9
          have fzR9 := frozH R9
          clear RB9 St9 IB9 hH1 xI xP xB0 xB1 j0 j1 j2
          gi_wp2_with fail
          exact ⟨OnlyL.from (L := [w.heap.size + 1]) (OnlyL.setCell hoW (.inl (List.mem_singleton.2 rfl)) _) _ HCL.out, .inl (fun h => HXP.out (prefix_at h HP.out))⟩
      · have e0 : (x.f == p.f && x.t == p.t) = false := by
          rw [Bool.and_eq_false_imp]
          intro h
          rw [beq_eq_false_iff_ne]
          exact fun h2 => hx1 ⟨by simpa using h, h2⟩
        have HXP : Hid (¬ x = p) := fun h => hx1 ⟨by rw [h], by rw [h]⟩
        clear hx1
        refine round_held_drew (S := fun w' => w'.cell? ⟨ib, 0, none⟩ = some (.int .i64 pre.length) ∧ w'.cell? ⟨w4.heap.size, 0, none⟩ = some (.slice (some ⟨g, off, none⟩) r.length c5) ∧ w'.cell? ⟨Bp, 0, none⟩ = some (.int .i64 x.f) ∧ w'.cell? ⟨Bp, 1, none⟩ = some (.int .i64 x.t) ∧ w'.cell? ⟨g, off + pre.length * 3, none⟩ = some (.int .i64 p.f) ∧ w'.cell? ⟨g, off + pre.length * 3 + 1, none⟩ = some (.int .i64 p.t) ∧ w'.cell? ⟨g, off + pre.length * 3 + 2, none⟩ = some (.int .i64 p.v)) (by kernel_rfl) (by kernel_rfl) ?_ (fun hH0 => ?_)
        · exact ⟨xI, xP, xB0, xB1, j0, j1, j2⟩
        refine wpAnyH_take (i := 0) (oi := { dst := some 44, op := Go.Op.load 3 (Go.Operand.tmp 11), type := 3, pos := "law.go:284", after := #[], guard := none }) (v := ?_) rfl (by kernel_rfl) (by kernel_rfl) (by kernel_rfl) (fun _ _ _ h => h) (Or.inl ⟨by rfl, ?_⟩) (by assumption) ?_
        rotate_left
        · intro wq hSw; (try dsimp only at hSw); go_simp; (try with_reducible rfl)
        try simp only [Act.put, List.setIfInBounds_toArray, List.set_cons_zero, List.set_cons_succ]
        refine wpAnyH_take (i := 1) (oi := { dst := some 45, op := Go.Op.load 59 (Go.Operand.tmp 8), type := 59, pos := "law.go:284", after := #[], guard := none }) (v := ?_) rfl (by kernel_rfl) (by kernel_rfl) (by kernel_rfl) (fun _ _ _ h => h) (Or.inl ⟨by rfl, ?_⟩) (by assumption) ?_
        rotate_left
        · intro wq hSw; (try dsimp only at hSw); go_simp; (try with_reducible rfl)
        try simp only [Act.put, List.setIfInBounds_toArray, List.set_cons_zero, List.set_cons_succ]
        refine wpAnyH_take (i := 2) (oi := { dst := some 46, op := Go.Op.call { callee := Go.Callee.builtin Go.Builtin.len, args := #[Go.Operand.tmp 45], argTypes := #[59] }, type := 3, pos := "law.go:284", after := #[{ on := 1, ground := Go.Ground.data }], guard := none }) (v := ?_) rfl (by kernel_rfl) (by kernel_rfl) (by kernel_rfl) (fun _ _ _ h => h) (Or.inl ⟨by rfl, ?_⟩) (by assumption) ?_
        rotate_left
        · intro wq hSw; (try dsimp only at hSw); go_simp; (try with_reducible rfl)
        try simp only [Act.put, List.setIfInBounds_toArray, List.set_cons_zero, List.set_cons_succ]
        refine wpAnyH_take (i := 3) (oi := { dst := some 47, op := Go.Op.binOp Go.BinOp.geq 3 (Go.Operand.tmp 44) (Go.Operand.tmp 46) 3, type := 4, pos := "law.go:284", after := #[{ on := 0, ground := Go.Ground.data }, { on := 2, ground := Go.Ground.data }], guard := none }) (v := ?_) rfl (by kernel_rfl) (by kernel_rfl) (by kernel_rfl) (fun _ _ _ h => h) (Or.inl ⟨by rfl, ?_⟩) (by assumption) ?_
        rotate_left
        · intro wq hSw; (try dsimp only at hSw); go_simp; (try with_reducible rfl)
        try simp only [Act.put, List.setIfInBounds_toArray, List.set_cons_zero, List.set_cons_succ]
        refine wpAnyH_take (i := 4) (oi := { dst := some 48, op := Go.Op.move (Go.Operand.tmp 47), type := 4, pos := "law.go:284", after := #[{ on := 3, ground := Go.Ground.data }], guard := none }) (v := ?_) rfl (by kernel_rfl) (by kernel_rfl) (by kernel_rfl) (fun _ _ _ h => h) (Or.inl ⟨by rfl, ?_⟩) (by assumption) ?_
        rotate_left
        · intro wq hSw; (try dsimp only at hSw); go_simp; (try with_reducible rfl)
        try simp only [Act.put, List.setIfInBounds_toArray, List.set_cons_zero, List.set_cons_succ]
        refine wpAnyH_take (i := 5) (oi := { dst := some 49, op := Go.Op.load 70 (Go.Operand.tmp 12), type := 70, pos := "law.go:284", after := #[{ on := 4, ground := Go.Ground.guard }], guard := some (4, false) }) (v := ?_) rfl (by kernel_rfl) (by kernel_rfl) (by kernel_rfl) (fun _ _ _ h => h) (Or.inl ⟨by rfl, ?_⟩) (by assumption) ?_
        rotate_left
        · intro wq hSw; (try dsimp only at hSw); go_simp; (try with_reducible rfl)
        try simp only [Act.put, List.setIfInBounds_toArray, List.set_cons_zero, List.set_cons_succ]
        refine wpAnyH_take (i := 6) (oi := { dst := some 50, op := Go.Op.load 59 (Go.Operand.tmp 8), type := 59, pos := "law.go:284", after := #[{ on := 4, ground := Go.Ground.guard }], guard := some (4, false) }) (v := ?_) rfl (by kernel_rfl) (by kernel_rfl) (by kernel_rfl) (fun _ _ _ h => h) (Or.inl ⟨by rfl, ?_⟩) (by assumption) ?_
        rotate_left
        · intro wq hSw; (try dsimp only at hSw); go_simp; (try with_reducible rfl)
        try simp only [Act.put, List.setIfInBounds_toArray, List.set_cons_zero, List.set_cons_succ]
        refine wpAnyH_take (i := 7) (oi := { dst := some 51, op := Go.Op.load 3 (Go.Operand.tmp 11), type := 3, pos := "law.go:284", after := #[{ on := 4, ground := Go.Ground.guard }], guard := some (4, false) }) (v := ?_) rfl (by kernel_rfl) (by kernel_rfl) (by kernel_rfl) (fun _ _ _ h => h) (Or.inl ⟨by rfl, ?_⟩) (by assumption) ?_
        rotate_left
        · intro wq hSw; (try dsimp only at hSw); go_simp; (try with_reducible rfl)
        try simp only [Act.put, List.setIfInBounds_toArray, List.set_cons_zero, List.set_cons_succ]
        refine wpAnyH_take (i := 8) (oi := { dst := some 52, op := Go.Op.indexAddr 59 (Go.Operand.tmp 50) (Go.Operand.tmp 51), type := 0, pos := "law.go:284", after := #[{ on := 6, ground := Go.Ground.data }, { on := 7, ground := Go.Ground.data }, { on := 4, ground := Go.Ground.guard }], guard := some (4, false) }) (v := ?_) rfl (by kernel_rfl) (by kernel_rfl) (by kernel_rfl) (fun _ _ _ h => h) (Or.inl ⟨by rfl, ?_⟩) (by assumption) ?_
        rotate_left
        · intro wq hSw; (try dsimp only at hSw); go_simp; (try with_reducible rfl)
        try simp only [Act.put, List.setIfInBounds_toArray, List.set_cons_zero, List.set_cons_succ]
        refine wpAnyH_take (i := 9) (oi := { dst := some 53, op := Go.Op.fieldAddr 73 (Go.Operand.tmp 52) 0, type := 0, pos := "law.go:284", after := #[{ on := 8, ground := Go.Ground.data }, { on := 4, ground := Go.Ground.guard }], guard := some (4, false) }) (v := ?_) rfl (by kernel_rfl) (by kernel_rfl) (by kernel_rfl) (fun _ _ _ h => h) (Or.inl ⟨by rfl, ?_⟩) (by assumption) ?_
        rotate_left
        · intro wq hSw; (try dsimp only at hSw); go_simp; (try with_reducible rfl)
        try simp only [Act.put, List.setIfInBounds_toArray, List.set_cons_zero, List.set_cons_succ]
        refine wpAnyH_take (i := 10) (oi := { dst := some 54, op := Go.Op.load 70 (Go.Operand.tmp 53), type := 70, pos := "law.go:284", after := #[{ on := 9, ground := Go.Ground.data }, { on := 4, ground := Go.Ground.guard }], guard := some (4, false) }) (v := ?_) rfl (by kernel_rfl) (by kernel_rfl) (by kernel_rfl) (fun _ _ _ h => h) (Or.inl ⟨by rfl, ?_⟩) (by assumption) ?_
        rotate_left
        · intro wq hSw; (try dsimp only at hSw); go_simp; (try with_reducible rfl)
        try simp only [Act.put, List.setIfInBounds_toArray, List.set_cons_zero, List.set_cons_succ]
        refine wpAnyH_ready (rs := [11]) (by kernel_rfl) (by simp) ?_
        refine AllReadyH.cons (o := { dst := some 55, op := Go.Op.call { callee := Go.Callee.value (Go.Operand.func 38), args := #[Go.Operand.tmp 49, Go.Operand.tmp 54], argTypes := #[70, 70] }, type := 4, pos := "law.go:284", after := #[{ on := 5, ground := Go.Ground.data }, { on := 10, ground := Go.Ground.data }, { on := 4, ground := Go.Ground.chain }, { on := 4, ground := Go.Ground.guard }], guard := some (4, false) }) rfl (fun K hK => ?_) ?_
        rotate_left
        · exact AllReadyH.nil
        go_simp
        refine (sameSpan_any _ _ _ _ _ false (e0)).mono ?_
        rintro e w2 ⟨rfl, hb2⟩
        have hoI : OnlyL [ib] wq w2 := OnlyL.step (by (repeat' (first | with_reducible exact OnlyL.refl _ _ | with_reducible assumption | with_reducible refine OnlyL.drew ?_ | with_reducible refine OnlyL.drewN ?_ _ | with_reducible refine OnlyL.setCell ?_ ?_ _ | with_reducible refine OnlyL.alloc ?_ _ | omega | (simp; done) | (simp; omega)))) hb2
        have hoW : OnlyL [w.heap.size + 1] wq w2 := OnlyL.step (by (repeat' (first | with_reducible exact OnlyL.refl _ _ | with_reducible assumption | with_reducible refine OnlyL.drew ?_ | with_reducible refine OnlyL.drewN ?_ _ | with_reducible refine OnlyL.setCell ?_ ?_ _ | with_reducible refine OnlyL.alloc ?_ _ | omega | (simp; done) | (simp; omega)))) hb2
        replace xI : w2.cell? ⟨ib, 0, none⟩ = some (.int .i64 pre.length) := cellOf hb2 (cell_drew xI)
        replace xP : w2.cell? ⟨w4.heap.size, 0, none⟩ = some (.slice (some ⟨g, off, none⟩) r.length c5) := cellOf hb2 (cell_drew xP)
        replace xB0 : w2.cell? ⟨Bp, 0, none⟩ = some (.int .i64 x.f) := cellOf hb2 (cell_drew xB0)
        replace xB1 : w2.cell? ⟨Bp, 1, none⟩ = some (.int .i64 x.t) := cellOf hb2 (cell_drew xB1)
        replace j0 : w2.cell? ⟨g, off + pre.length * 3, none⟩ = some (.int .i64 p.f) := cellOf hb2 (cell_drew j0)
        replace j1 : w2.cell? ⟨g, off + pre.length * 3 + 1, none⟩ = some (.int .i64 p.t) := cellOf hb2 (cell_drew j1)
        replace j2 : w2.cell? ⟨g, off + pre.length * 3 + 2, none⟩ = some (.int .i64 p.v) := cellOf hb2 (cell_drew j2)
        have RB9 := keepH hb2 (drew_old RB8.out)
        have St9 := keepH hb2 (drew_old St8.out)
        have R9 := keepH hb2 (drew_old R8.out)
        have IB9 := keepH hb2 (drew_old IB8.out)
        go_wp2_with fail
        refine hK.out _ _ ?_ (fun hH1 => ?_)
        · (try dsimp only); exact ⟨xI, xP, xB0, xB1, j0, j1, j2⟩
        clear hK K
        clear hH0
        try simp only [Act.put, List.setIfInBounds_toArray, List.set_cons_zero, List.set_cons_succ]
        refine wpAnyH_take (i := 12) (oi := { dst := some 56, op := Go.Op.unOp Go.UnOp.not 4 (Go.Operand.tmp 55), type := 4, pos := "law.go:284", after := #[{ on := 11, ground := Go.Ground.data }, { on := 4, ground := Go.Ground.guard }], guard := some (4, false) }) (v := ?_) rfl (by kernel_rfl) (by kernel_rfl) (by kernel_rfl) (fun _ _ _ h => h) (Or.inl ⟨by rfl, ?_⟩) (by assumption) ?_
        rotate_left
        · intro wq hSw; (try dsimp only at hSw); go_simp; (try with_reducible rfl)
        try simp only [Act.put, List.setIfInBounds_toArray, List.set_cons_zero, List.set_cons_succ]
        refine wpAnyH_take (i := 13) (oi := { dst := some 57, op := Go.Op.pick (Go.Operand.tmp 48) (Go.Operand.const (Go.Value.bool true)) (Go.Operand.tmp 56), type := 4, pos := "law.go:284", after := #[{ on := 4, ground := Go.Ground.data }, { on := 12, ground := Go.Ground.data }], guard := none }) (v := ?_) rfl (by kernel_rfl) (by kernel_rfl) (by kernel_rfl) (fun _ _ _ h => h) (Or.inl ⟨by rfl, ?_⟩) (by assumption) ?_
        rotate_left
        · intro wq hSw; (try dsimp only at hSw); go_simp; (try with_reducible rfl)
        try simp only [Act.put, List.setIfInBounds_toArray, List.set_cons_zero, List.set_cons_succ]
        refine wpAnyH_take (i := 14) (oi := { dst := some 58, op := Go.Op.move (Go.Operand.tmp 57), type := 4, pos := "law.go:284", after := #[{ on := 13, ground := Go.Ground.data }, { on := 11, ground := Go.Ground.chain }], guard := none }) (v := ?_) rfl (by kernel_rfl) (by kernel_rfl) (by kernel_rfl) (fun _ _ _ h => h) (Or.inl ⟨by rfl, ?_⟩) (by assumption) ?_
        rotate_left
        · intro wq hSw; (try dsimp only at hSw); go_simp; (try with_reducible rfl)
        try simp only [Act.put, List.setIfInBounds_toArray, List.set_cons_zero, List.set_cons_succ]
        refine wpAnyH_take (i := 15) (oi := { dst := some 59, op := Go.Op.move (Go.Operand.tmp 13), type := 3, pos := "law.go:284", after := #[{ on := 14, ground := Go.Ground.guard }], guard := some (14, false) }) (v := undef) rfl (by kernel_rfl) (by kernel_rfl) (by kernel_rfl) (fun _ _ _ h => h) (Or.inr ⟨by rfl, rfl⟩) (by assumption) ?_
        try simp only [Act.put, List.setIfInBounds_toArray, List.set_cons_zero, List.set_cons_succ]
        refine wpAnyH_take (i := 16) (oi := { dst := some 60, op := Go.Op.load 59 (Go.Operand.tmp 8), type := 59, pos := "law.go:284", after := #[{ on := 14, ground := Go.Ground.guard }], guard := some (14, false) }) (v := undef) rfl (by kernel_rfl) (by kernel_rfl) (by kernel_rfl) (fun _ _ _ h => h) (Or.inr ⟨by rfl, rfl⟩) (by assumption) ?_
        try simp only [Act.put, List.setIfInBounds_toArray, List.set_cons_zero, List.set_cons_succ]
        refine wpAnyH_take (i := 17) (oi := { dst := some 61, op := Go.Op.load 3 (Go.Operand.tmp 11), type := 3, pos := "law.go:284", after := #[{ on := 14, ground := Go.Ground.guard }], guard := some (14, false) }) (v := undef) rfl (by kernel_rfl) (by kernel_rfl) (by kernel_rfl) (fun _ _ _ h => h) (Or.inr ⟨by rfl, rfl⟩) (by assumption) ?_
        try simp only [Act.put, List.setIfInBounds_toArray, List.set_cons_zero, List.set_cons_succ]
        refine wpAnyH_take (i := 18) (oi := { dst := some 62, op := Go.Op.indexAddr 59 (Go.Operand.tmp 60) (Go.Operand.tmp 61), type := 0, pos := "law.go:284", after := #[{ on := 16, ground := Go.Ground.data }, { on := 17, ground := Go.Ground.data }, { on := 14, ground := Go.Ground.guard }], guard := some (14, false) }) (v := undef) rfl (by kernel_rfl) (by kernel_rfl) (by kernel_rfl) (fun _ _ _ h => h) (Or.inr ⟨by rfl, rfl⟩) (by assumption) ?_
        try simp only [Act.put, List.setIfInBounds_toArray, List.set_cons_zero, List.set_cons_succ]
        refine wpAnyH_take (i := 19) (oi := { dst := some 63, op := Go.Op.fieldAddr 73 (Go.Operand.tmp 62) 1, type := 0, pos := "law.go:284", after := #[{ on := 18, ground := Go.Ground.data }, { on := 14, ground := Go.Ground.guard }], guard := some (14, false) }) (v := undef) rfl (by kernel_rfl) (by kernel_rfl) (by kernel_rfl) (fun _ _ _ h => h) (Or.inr ⟨by rfl, rfl⟩) (by assumption) ?_
        try simp only [Act.put, List.setIfInBounds_toArray, List.set_cons_zero, List.set_cons_succ]
        refine wpAnyH_take (i := 20) (oi := { dst := some 64, op := Go.Op.load 3 (Go.Operand.tmp 63), type := 3, pos := "law.go:284", after := #[{ on := 19, ground := Go.Ground.data }, { on := 14, ground := Go.Ground.guard }], guard := some (14, false) }) (v := undef) rfl (by kernel_rfl) (by kernel_rfl) (by kernel_rfl) (fun _ _ _ h => h) (Or.inr ⟨by rfl, rfl⟩) (by assumption) ?_
        try simp only [Act.put, List.setIfInBounds_toArray, List.set_cons_zero, List.set_cons_succ]
        refine wpAnyH_take (i := 21) (oi := { dst := some 65, op := Go.Op.binOp Go.BinOp.neq 3 (Go.Operand.tmp 59) (Go.Operand.tmp 64) 3, type := 4, pos := "law.go:284", after := #[{ on := 15, ground := Go.Ground.data }, { on := 20, ground := Go.Ground.data }, { on := 14, ground := Go.Ground.guard }], guard := some (14, false) }) (v := undef) rfl (by kernel_rfl) (by kernel_rfl) (by kernel_rfl) (fun _ _ _ h => h) (Or.inr ⟨by rfl, rfl⟩) (by assumption) ?_
        try simp only [Act.put, List.setIfInBounds_toArray, List.set_cons_zero, List.set_cons_succ]
        refine wpAnyH_take (i := 22) (oi := { dst := some 66, op := Go.Op.pick (Go.Operand.tmp 58) (Go.Operand.const (Go.Value.bool true)) (Go.Operand.tmp 65), type := 4, pos := "law.go:284", after := #[{ on := 14, ground := Go.Ground.data }, { on := 21, ground := Go.Ground.data }], guard := none }) (v := ?_) rfl (by kernel_rfl) (by kernel_rfl) (by kernel_rfl) (fun _ _ _ h => h) (Or.inl ⟨by rfl, ?_⟩) (by assumption) ?_
        rotate_left
        · intro wq hSw; (try dsimp only at hSw); go_simp; (try with_reducible rfl)
        try simp only [Act.put, List.setIfInBounds_toArray, List.set_cons_zero, List.set_cons_succ]
        refine wpAnyH_done (by kernel_rfl) ?_ _
        refine noOut_normal ?_
        have cR9 := cellH R9
        have fzR9 := frozH R9
        clear RB9 St9 IB9 hH1 xI xP xB0 xB1 j0 j1 j2
        gi_wp2_with fail
        exact ⟨OnlyL.from (L := [w.heap.size + 1]) (OnlyL.setCell hoW (.inl (List.mem_singleton.2 rfl)) _) _ HCL.out, .inl (fun h => HXP.out (prefix_at h HP.out))⟩
    case done1 =>
      intro D1 xs W hD1 hxs hI hK
      rw [hxs] at hI
      obtain ⟨i1, i2, i3⟩ := hI
      subst ha
      have zq := i2.size
      have St8 : Hid (W.heap[w.heap.size]? = some (.cells #[.int .i64 stop] 3 (0, 0))) := (i2.block _ l7St).trans St7.out
      have R8 : Hid (W.heap[w.heap.size + 1]? = some (.cells #[.bool false] 4 (0, 0))) := (i2.block _ l7R).trans R7.out
      have PB8 : Hid (W.heap[w4.heap.size]? = some (.cells #[.slice A5 r.length c5] 59 (0, 0))) := (i2.block _ l7P).trans PB7.out
      have BX8 : Hid (W.heap[Bx]? = some (.cells #[.slice A3 r.length c3] 61 (0, 0))) := (i2.block _ l7B).trans BX7.out
      have RB8 : Hid (W.heap[rb9]? = some (.cells #[.int .i64 1] 3 (0, 0))) := (i2.block _ l7RB).trans RB7.out
      have HKD := Lib.hid hK
      have hw8 : Below w.heap.size w W := hw7.trans (i2.mono zw6)
      have hv8 : Below w4.heap.size w4 W := hv7.trans (i2.mono zv6)
      have hx8 : Below w3.heap.size w3 W := hx7.trans (i2.mono zx6)
      have KD08 := Lib.hid ((i2.block _ (by have := lD0; omega)).trans KD07.out)
      have IB8 : Hid (W.heap[ib]? = some (.cells #[.int .i64 r.length] 3 (0, 0))) := i1
      have cSt := cellH St8
      have cPB := cellH PB8
      have cRB := cellH RB8
      have cIB := cellH IB8
      clear i1 i2 i3 hK hxs
      gi_wp2_with fail
      have RB9 : Hid ((W.alloc (.cells #[.int .i64 2] 3)).heap[W.heap.size]? = some (.cells #[.int .i64 2] 3 (0, 0))) := blk_new rfl
      have St6 := Lib.hid (blk_old (o := .cells #[.int .i64 2] 3) St8.out)
      have R6 := Lib.hid (blk_old (o := .cells #[.int .i64 2] 3) R8.out)
      have PB6 := Lib.hid (blk_old (o := .cells #[.int .i64 2] 3) PB8.out)
      have BX6 := Lib.hid (blk_old (o := .cells #[.int .i64 2] 3) BX8.out)
      have KD1 := Lib.hid (blk_old (o := .cells #[.int .i64 2] 3) HKD.out)
      have KD0b := Lib.hid (blk_old (o := .cells #[.int .i64 2] 3) KD08.out)
      have zw8 := hw8.size
      have zv8 := hv8.size
      have zx8 := hx8.size
      have hw6 : Below w.heap.size w (W.alloc (.cells #[.int .i64 2] 3)) := by (repeat' (first | with_reducible exact Below.refl _ _ | with_reducible assumption | with_reducible refine Below.drew ?_ | with_reducible refine below_drewN ?_ _ | with_reducible refine Below.setCell ?_ ?_ _ | with_reducible refine Below.alloc ?_ ?_ _ | omega | (simp; done) | (simp; omega)))
      have hv6 : Below w4.heap.size w4 (W.alloc (.cells #[.int .i64 2] 3)) := by (repeat' (first | with_reducible exact Below.refl _ _ | with_reducible assumption | with_reducible refine Below.drew ?_ | with_reducible refine below_drewN ?_ _ | with_reducible refine Below.setCell ?_ ?_ _ | with_reducible refine Below.alloc ?_ ?_ _ | omega | (simp; done) | (simp; omega)))
      have hx6 : Below w3.heap.size w3 (W.alloc (.cells #[.int .i64 2] 3)) := by (repeat' (first | with_reducible exact Below.refl _ _ | with_reducible assumption | with_reducible refine Below.drew ?_ | with_reducible refine below_drewN ?_ _ | with_reducible refine Below.setCell ?_ ?_ _ | with_reducible refine Below.alloc ?_ ?_ _ | omega | (simp; done) | (simp; omega)))
      obtain ⟨rb9, hrb⟩ : ∃ rb9, W.heap.size = rb9 := ⟨_, rfl⟩
      clear St8 R8 PB8 BX8 RB8 IB8 HKD hw8 hv8 hx8 cSt cPB cRB cIB St7 R7 PB7 BX7 RB7 IB7 hw7 hv7 hx7 HA7
      generalize (W.alloc (.cells #[.int .i64 2] 3)) = w69 at *
      rw [hrb] at RB9 ⊢
      rw [hrb] at zw8 zv8 zx8 zq
      clear hrb
      have cRB := cellH RB9
      have cP := cellH PB6
      have cR := cellH R6
      have fzR := frozH R6
      rw [roundsIn_succ]
      gi_wp2_with fail

      have k1 : (w69.setCell ⟨w.heap.size + 1, 0, none⟩ (.bool true)).heap[D1]? = some (.deferred (some [])) := (KeepsOthers.setCell _ _ _).same D1 _ KD1.out rfl
      have k0 : ((w69.setCell ⟨w.heap.size + 1, 0, none⟩ (.bool true)).putObj D1 (.deferred none)).heap[D0]? = some (.deferred (some [])) := (World.putObj_heap_other (by omega)).trans ((KeepsOthers.setCell _ _ _).same D0 _ KD0b.out rfl)
      have HR : Hid ((((w69.setCell ⟨w.heap.size + 1, 0, none⟩ (.bool true)).putObj D1 (.deferred none)).putObj D0 (.deferred none)).heap[w.heap.size + 1]? = some (.cells #[.bool true] 4 (0, 0))) := (World.putObj_heap_other (by omega)).trans ((World.putObj_heap_other (by omega)).trans (setBox R6.out _))
      have hB : Below w.heap.size w (((w69.setCell ⟨w.heap.size + 1, 0, none⟩ (.bool true)).putObj D1 (.deferred none)).putObj D0 (.deferred none)) := Below.trans (Below.trans (hw6.setCell (by simp) _) (belowK_b (w := w) (Nat.le_refl _) _ D1 _ _ (by omega) k1 rfl rfl)) (belowK_b (w := w) (Nat.le_refl _) _ D0 _ _ (by omega) k0 rfl rfl)
      refine ⟨by simp, .inl ⟨_, _, rfl, run_takeDeferred k1, ⟨by simp, .inl ⟨_, _, rfl, run_takeDeferred k0, ?_⟩⟩⟩⟩
      clear k1 k0
      generalize (((w69.setCell ⟨w.heap.size + 1, 0, none⟩ (.bool true)).putObj D1 (.deferred none)).putObj D0 (.deferred none)) = wz at HR hB ⊢
      have c4 := cellH HR
      exact ⟨_, (by simp [results, Tryd.results5, go_sem, c4]), rfl, hB⟩

    case stop1 =>
      rintro D1 c pre W hD hpre hX hK
      rcases hX with h | ⟨h1, _, _⟩
      · exact absurd hpre h
      · omega

  case stop =>
    rintro D0 c pre W hD0 hpre hX hK
    rcases hX with h | ⟨hst, rfl, i1, i2, i3⟩
    · exact absurd hpre h
    · subst ha
      have zq := i2.size
      have St8 : Hid (W.heap[w.heap.size]? = some (.cells #[.int .i64 stop] 3 (0, 0))) := (i2.block _ l7St).trans St7.out
      have R8 : Hid (W.heap[w.heap.size + 1]? = some (.cells #[.bool false] 4 (0, 0))) := (i2.block _ l7R).trans R7.out
      have PB8 : Hid (W.heap[w4.heap.size]? = some (.cells #[.slice A5 r.length c5] 59 (0, 0))) := (i2.block _ l7P).trans PB7.out
      have BX8 : Hid (W.heap[Bx]? = some (.cells #[.slice A3 r.length c3] 61 (0, 0))) := (i2.block _ l7B).trans BX7.out
      have RB8 : Hid (W.heap[rb]? = some (.cells #[.int .i64 0] 3 (0, 0))) := (i2.block _ l7RB).trans RB7.out
      have HKD := Lib.hid hK
      have hw8 : Below w.heap.size w W := hw7.trans (i2.mono zw6)
      have hv8 : Below w4.heap.size w4 W := hv7.trans (i2.mono zv6)
      have hx8 : Below w3.heap.size w3 W := hx7.trans (i2.mono zx6)
      have IB8 : Hid (W.heap[ib]? = some (.cells #[.int .i64 pre.length] 3 (0, 0))) := i1
      have cSt := cellH St8
      have cPB := cellH PB8
      have cRB := cellH RB8
      clear i1 i2 i3 hK hpre
      by_cases hpl : pre.length = r.length
      · rw [hpl] at IB8
        have cIB := cellH IB8
        clear hst hpl
        gi_wp2_with fail
        have RB9 : Hid ((W.alloc (.cells #[.int .i64 1] 3)).heap[W.heap.size]? = some (.cells #[.int .i64 1] 3 (0, 0))) := blk_new rfl
        have St6 := Lib.hid (blk_old (o := .cells #[.int .i64 1] 3) St8.out)
        have R6 := Lib.hid (blk_old (o := .cells #[.int .i64 1] 3) R8.out)
        have PB6 := Lib.hid (blk_old (o := .cells #[.int .i64 1] 3) PB8.out)
        have BX6 := Lib.hid (blk_old (o := .cells #[.int .i64 1] 3) BX8.out)
        have KD0 := Lib.hid (blk_old (o := .cells #[.int .i64 1] 3) HKD.out)

        have zw8 := hw8.size
        have zv8 := hv8.size
        have zx8 := hx8.size
        have hw6 : Below w.heap.size w (W.alloc (.cells #[.int .i64 1] 3)) := by (repeat' (first | with_reducible exact Below.refl _ _ | with_reducible assumption | with_reducible refine Below.drew ?_ | with_reducible refine below_drewN ?_ _ | with_reducible refine Below.setCell ?_ ?_ _ | with_reducible refine Below.alloc ?_ ?_ _ | omega | (simp; done) | (simp; omega)))
        have hv6 : Below w4.heap.size w4 (W.alloc (.cells #[.int .i64 1] 3)) := by (repeat' (first | with_reducible exact Below.refl _ _ | with_reducible assumption | with_reducible refine Below.drew ?_ | with_reducible refine below_drewN ?_ _ | with_reducible refine Below.setCell ?_ ?_ _ | with_reducible refine Below.alloc ?_ ?_ _ | omega | (simp; done) | (simp; omega)))
        have hx6 : Below w3.heap.size w3 (W.alloc (.cells #[.int .i64 1] 3)) := by (repeat' (first | with_reducible exact Below.refl _ _ | with_reducible assumption | with_reducible refine Below.drew ?_ | with_reducible refine below_drewN ?_ _ | with_reducible refine Below.setCell ?_ ?_ _ | with_reducible refine Below.alloc ?_ ?_ _ | omega | (simp; done) | (simp; omega)))
        obtain ⟨rb9, hrb⟩ : ∃ rb, W.heap.size = rb := ⟨_, rfl⟩
        clear St8 R8 PB8 BX8 RB8 IB8 HKD hw8 hv8 hx8 cSt cPB cRB cIB St7 R7 PB7 BX7 RB7 IB7 hw7 hv7 hx7 HA7
        generalize (W.alloc (.cells #[.int .i64 1] 3)) = w69 at *
        rw [hrb] at RB9 ⊢
        rw [hrb] at zw8 zv8 zx8 zq
        clear hrb
        have cRB := cellH RB9
        have cP := cellH PB6

        rw [roundsIn_succ]
        gi_wp2_with fail
        have IB7 : Hid ((w69.alloc (.cells #[.int .i64 0] 3)).heap[w69.heap.size]? = some (.cells #[.int .i64 0] 3 (0, 0))) := blk_new rfl
        have St7 := Lib.hid (blk_old (o := .cells #[.int .i64 0] 3) St6.out)
        have R7 := Lib.hid (blk_old (o := .cells #[.int .i64 0] 3) R6.out)
        have PB7 := Lib.hid (blk_old (o := .cells #[.int .i64 0] 3) PB6.out)
        have BX7 := Lib.hid (blk_old (o := .cells #[.int .i64 0] 3) BX6.out)
        have RB7 := Lib.hid (blk_old (o := .cells #[.int .i64 0] 3) RB9.out)
        have KD07 := Lib.hid (blk_old (o := .cells #[.int .i64 0] 3) KD0.out)
        have lD0 : D0 < w69.heap.size := (Array.getElem?_eq_some_iff.1 KD0.out).1
        have zw6 := hw6.size
        have zv6 := hv6.size
        have zx6 := hx6.size
        have hw7 : Below w.heap.size w (w69.alloc (.cells #[.int .i64 0] 3)) := by (repeat' (first | with_reducible exact Below.refl _ _ | with_reducible assumption | with_reducible refine Below.drew ?_ | with_reducible refine below_drewN ?_ _ | with_reducible refine Below.setCell ?_ ?_ _ | with_reducible refine Below.alloc ?_ ?_ _ | omega | (simp; done) | (simp; omega)))
        have hv7 : Below w4.heap.size w4 (w69.alloc (.cells #[.int .i64 0] 3)) := by (repeat' (first | with_reducible exact Below.refl _ _ | with_reducible assumption | with_reducible refine Below.drew ?_ | with_reducible refine below_drewN ?_ _ | with_reducible refine Below.setCell ?_ ?_ _ | with_reducible refine Below.alloc ?_ ?_ _ | omega | (simp; done) | (simp; omega)))
        have hx7 : Below w3.heap.size w3 (w69.alloc (.cells #[.int .i64 0] 3)) := by (repeat' (first | with_reducible exact Below.refl _ _ | with_reducible assumption | with_reducible refine Below.drew ?_ | with_reducible refine below_drewN ?_ _ | with_reducible refine Below.setCell ?_ ?_ _ | with_reducible refine Below.alloc ?_ ?_ _ | omega | (simp; done) | (simp; omega)))
        have hu7 : w69.heap.size < (w69.alloc (.cells #[.int .i64 0] 3)).heap.size := by simp
        have l7St := lt_of_H St6
        have l7R := lt_of_H R6
        have l7P := lt_of_H PB6
        have l7B := lt_of_H BX6
        have l7RB := lt_of_H RB9
        obtain ⟨ib, hib⟩ : ∃ ib, w69.heap.size = ib := ⟨_, rfl⟩
        clear St6 R6 PB6 BX6 RB9 hw6 hv6 hx6 cRB cP
        generalize (w69.alloc (.cells #[.int .i64 0] 3)) = w7 at *
        rw [hib] at IB7 hu7 l7St l7R l7P l7B l7RB zw6 zv6 zx6 lD0 ⊢
        clear hib
        have HA7 : RowAt encP 3 w7 ib A3 r := (HROW.out.below hx7 (Nat.le_refl _)).more zx6
        generalize ha : Act.mk _ _ = a0
        refine wpIn_rangeFunc_ownH rfl (by decide) (gf := 98) (lb := #[.pointer (some ⟨Bx, 0, none⟩)]) (by rw [← ha]; rfl) trivial (enters_of Tryd.func98 (by kernel_rfl) rfl)
          (all1_stops r A3 c3 (by omega) (3 - 1) Bx ib l7B w7 (Nat.le_of_lt hu7) BX7 HA7)
          Below.trans (fun W l o o' hl h q1 q2 => (keepR_b (m := ib) (lo := 0) (hi := 0) (Nat.le_of_lt hu7) (Nat.zero_le _) W l o o' hl h q1 q2).below) (Below.refl _ _) (fun x => rfl)
          (LiI r ib w7) (LiX r ib w7 (-1)) (LiI_own (Nat.le_of_lt hu7) (Nat.le_refl _)) (fun c => LiX_own c (Nat.le_of_lt hu7) (Nat.le_refl _)) ⟨IB7.out, Below.refl _ _, rfl⟩
          (fun x a' W => ∃ Bp, w7.heap.size ≤ Bp ∧ W.heap[Bp]? = some (.cells #[.int .i64 x.f, .int .i64 x.t] 70 (0, 0)) ∧ a' = { tmps := (((a0.tmps.setIfInBounds 42 (.agg #[.int .i64 x.f, .int .i64 x.t])).setIfInBounds 43 (.int .i64 x.v)).setIfInBounds 12 (.pointer (some ⟨Bp, 0, none⟩))).setIfInBounds 13 (.int .i64 x.v), defers := [] })
          (fun x a' s W W' row hs hg hr => by obtain ⟨Bp, h2, h3, h4⟩ := hs; exact ⟨Bp, h2, ownBlk h3 hg hr, h4⟩) ?assign1 ?body1 ?done1 ?stop1
        case assign1 =>
          intro l9 pre x W K hI hK
          obtain ⟨i1, i2, i3⟩ := hI
          have zz := i2.size
          subst ha
          simp only [encS]
          gi_wp2_with fail
          have h9 := hK _ _ ((KeepsOthers.alloc W (.cells #[.int .i64 x.f, .int .i64 x.t] 70)).from _) ((Below.refl _ _).alloc (by omega) _) ⟨blk_old i1, i2.alloc (by omega) _, i3⟩ ⟨_, zz, blk_new rfl, rfl⟩
          simp only [List.setIfInBounds_toArray, List.set_cons_zero, List.set_cons_succ] at h9
          exact h9
        case body1 =>
          rintro l9 pre x a' wq hl9 ⟨rr, hrr⟩ ⟨i1, i2, i3⟩ ⟨Bp, p2, p3, rfl⟩ hlt
          have zq := i2.size
          subst ha
          try simp only [List.setIfInBounds_toArray, List.set_cons_zero, List.set_cons_succ]
          have St8 : Hid (wq.heap[w.heap.size]? = some (.cells #[.int .i64 stop] 3 (0, 0))) := (i2.block _ l7St).trans St7.out
          have R8 : Hid (wq.heap[w.heap.size + 1]? = some (.cells #[.bool false] 4 (0, 0))) := (i2.block _ l7R).trans R7.out
          have PB8 : Hid (wq.heap[w4.heap.size]? = some (.cells #[.slice A5 r.length c5] 59 (0, 0))) := (i2.block _ l7P).trans PB7.out
          have RB8 : Hid (wq.heap[rb9]? = some (.cells #[.int .i64 1] 3 (0, 0))) := (i2.block _ l7RB).trans RB7.out
          have IB8 : Hid (wq.heap[ib]? = some (.cells #[.int .i64 pre.length] 3 (0, 0))) := i1
          have P8 : Hid (wq.heap[Bp]? = some (.cells #[.int .i64 x.f, .int .i64 x.t] 70 (0, 0))) := p3
          obtain ⟨p, hp⟩ : ∃ p, r[pre.length]? = some p := ⟨r[pre.length], List.getElem?_eq_getElem hlt⟩
          obtain ⟨g, off, hA5, hg, j0, j1, j2⟩ := cells3 ((HR5.out.below hv7 (Nat.le_refl _)).below i2 zv6) hp
          subst hA5
          have HP := Lib.hid hp
          have HI2 := Lib.hid i2
          have HI3 := Lib.hid i3
          have xP : wq.cell? ⟨w4.heap.size, 0, none⟩ = some (.slice (some ⟨g, off, none⟩) r.length c5) := cellH PB8 0
          have xI : wq.cell? ⟨ib, 0, none⟩ = some (.int .i64 pre.length) := cellH IB8 0
          have xB0 : wq.cell? ⟨Bp, 0, none⟩ = some (.int .i64 x.f) := cellH P8 0
          have xB1 : wq.cell? ⟨Bp, 1, none⟩ = some (.int .i64 x.t) := cellH P8 1
          have hlt2 : (pre.length : Int) < (r.length : Int) := by omega
          have k2 : (0 : Int) ≤ (pre.length : Int) := by omega
          have k6 : ((pre.length : Int)).toNat = pre.length := by omega
          have hge : decide (r.length ≤ pre.length) = false := decide_eq_false (by omega)
          have hBw := lt_of_H P8
          have zB := zw6
          clear hp i1 i2 i3 p3
          gi_upto_region 18 with fail
          have HCL : Hid (∀ k ∈ [w.heap.size + 1], ∃ cs t z, wq.heap[k]? = some (.cells cs t z)) := by
            intro k hk
            simp only [List.mem_cons, List.not_mem_nil, or_false] at hk
            subst hk
            exact ⟨_, _, _, R8.out⟩
          have HCI : Hid (∀ k ∈ [ib], ∃ cs t z, wq.heap[k]? = some (.cells cs t z)) := by
            intro k hk
            simp only [List.mem_cons, List.not_mem_nil, or_false] at hk
            subst hk
            exact ⟨_, _, _, IB8.out⟩
          by_cases hx1 : x.f = p.f ∧ x.t = p.t
          · obtain ⟨hxf, hxt⟩ := hx1
            have e0 : (x.f == p.f && x.t == p.t) = true := by simp [hxf, hxt]
            by_cases hxv : x.v = p.v
            · have e3 : (x.v != p.v) = false := by simp [hxv]
              have HXP : Hid (x = p) := by show x = p; cases x; cases p; simp_all
              clear hxf hxt hxv
              refine round_held_drew (S := fun w' => w'.cell? ⟨ib, 0, none⟩ = some (.int .i64 pre.length) ∧ w'.cell? ⟨w4.heap.size, 0, none⟩ = some (.slice (some ⟨g, off, none⟩) r.length c5) ∧ w'.cell? ⟨Bp, 0, none⟩ = some (.int .i64 x.f) ∧ w'.cell? ⟨Bp, 1, none⟩ = some (.int .i64 x.t) ∧ w'.cell? ⟨g, off + pre.length * 3, none⟩ = some (.int .i64 p.f) ∧ w'.cell? ⟨g, off + pre.length * 3 + 1, none⟩ = some (.int .i64 p.t) ∧ w'.cell? ⟨g, off + pre.length * 3 + 2, none⟩ = some (.int .i64 p.v)) (by kernel_rfl) (by kernel_rfl) ?_ (fun hH0 => ?_)
              · exact ⟨xI, xP, xB0, xB1, j0, j1, j2⟩
              refine wpAnyH_take (i := 0) (oi := { dst := some 44, op := Go.Op.load 3 (Go.Operand.tmp 11), type := 3, pos := "law.go:284", after := #[], guard := none }) (v := ?_) rfl (by kernel_rfl) (by kernel_rfl) (by kernel_rfl) (fun _ _ _ h => h) (Or.inl ⟨by rfl, ?_⟩) (by assumption) ?_
              rotate_left
              · intro wq hSw; (try dsimp only at hSw); go_simp; (try with_reducible rfl)
              try simp only [Act.put, List.setIfInBounds_toArray, List.set_cons_zero, List.set_cons_succ]
              refine wpAnyH_take (i := 1) (oi := { dst := some 45, op := Go.Op.load 59 (Go.Operand.tmp 8), type := 59, pos := "law.go:284", after := #[], guard := none }) (v := ?_) rfl (by kernel_rfl) (by kernel_rfl) (by kernel_rfl) (fun _ _ _ h => h) (Or.inl ⟨by rfl, ?_⟩) (by assumption) ?_
              rotate_left
              · intro wq hSw; (try dsimp only at hSw); go_simp; (try with_reducible rfl)
              try simp only [Act.put, List.setIfInBounds_toArray, List.set_cons_zero, List.set_cons_succ]
              refine wpAnyH_take (i := 2) (oi := { dst := some 46, op := Go.Op.call { callee := Go.Callee.builtin Go.Builtin.len, args := #[Go.Operand.tmp 45], argTypes := #[59] }, type := 3, pos := "law.go:284", after := #[{ on := 1, ground := Go.Ground.data }], guard := none }) (v := ?_) rfl (by kernel_rfl) (by kernel_rfl) (by kernel_rfl) (fun _ _ _ h => h) (Or.inl ⟨by rfl, ?_⟩) (by assumption) ?_
              rotate_left
              · intro wq hSw; (try dsimp only at hSw); go_simp; (try with_reducible rfl)
              try simp only [Act.put, List.setIfInBounds_toArray, List.set_cons_zero, List.set_cons_succ]
              refine wpAnyH_take (i := 3) (oi := { dst := some 47, op := Go.Op.binOp Go.BinOp.geq 3 (Go.Operand.tmp 44) (Go.Operand.tmp 46) 3, type := 4, pos := "law.go:284", after := #[{ on := 0, ground := Go.Ground.data }, { on := 2, ground := Go.Ground.data }], guard := none }) (v := ?_) rfl (by kernel_rfl) (by kernel_rfl) (by kernel_rfl) (fun _ _ _ h => h) (Or.inl ⟨by rfl, ?_⟩) (by assumption) ?_
              rotate_left
              · intro wq hSw; (try dsimp only at hSw); go_simp; (try with_reducible rfl)
              try simp only [Act.put, List.setIfInBounds_toArray, List.set_cons_zero, List.set_cons_succ]
              refine wpAnyH_take (i := 4) (oi := { dst := some 48, op := Go.Op.move (Go.Operand.tmp 47), type := 4, pos := "law.go:284", after := #[{ on := 3, ground := Go.Ground.data }], guard := none }) (v := ?_) rfl (by kernel_rfl) (by kernel_rfl) (by kernel_rfl) (fun _ _ _ h => h) (Or.inl ⟨by rfl, ?_⟩) (by assumption) ?_
              rotate_left
              · intro wq hSw; (try dsimp only at hSw); go_simp; (try with_reducible rfl)
              try simp only [Act.put, List.setIfInBounds_toArray, List.set_cons_zero, List.set_cons_succ]
              refine wpAnyH_take (i := 5) (oi := { dst := some 49, op := Go.Op.load 70 (Go.Operand.tmp 12), type := 70, pos := "law.go:284", after := #[{ on := 4, ground := Go.Ground.guard }], guard := some (4, false) }) (v := ?_) rfl (by kernel_rfl) (by kernel_rfl) (by kernel_rfl) (fun _ _ _ h => h) (Or.inl ⟨by rfl, ?_⟩) (by assumption) ?_
              rotate_left
              · intro wq hSw; (try dsimp only at hSw); go_simp; (try with_reducible rfl)
              try simp only [Act.put, List.setIfInBounds_toArray, List.set_cons_zero, List.set_cons_succ]
              refine wpAnyH_take (i := 6) (oi := { dst := some 50, op := Go.Op.load 59 (Go.Operand.tmp 8), type := 59, pos := "law.go:284", after := #[{ on := 4, ground := Go.Ground.guard }], guard := some (4, false) }) (v := ?_) rfl (by kernel_rfl) (by kernel_rfl) (by kernel_rfl) (fun _ _ _ h => h) (Or.inl ⟨by rfl, ?_⟩) (by assumption) ?_
              rotate_left
              · intro wq hSw; (try dsimp only at hSw); go_simp; (try with_reducible rfl)
              try simp only [Act.put, List.setIfInBounds_toArray, List.set_cons_zero, List.set_cons_succ]
              refine wpAnyH_take (i := 7) (oi := { dst := some 51, op := Go.Op.load 3 (Go.Operand.tmp 11), type := 3, pos := "law.go:284", after := #[{ on := 4, ground := Go.Ground.guard }], guard := some (4, false) }) (v := ?_) rfl (by kernel_rfl) (by kernel_rfl) (by kernel_rfl) (fun _ _ _ h => h) (Or.inl ⟨by rfl, ?_⟩) (by assumption) ?_
              rotate_left
              · intro wq hSw; (try dsimp only at hSw); go_simp; (try with_reducible rfl)
              try simp only [Act.put, List.setIfInBounds_toArray, List.set_cons_zero, List.set_cons_succ]
              refine wpAnyH_take (i := 8) (oi := { dst := some 52, op := Go.Op.indexAddr 59 (Go.Operand.tmp 50) (Go.Operand.tmp 51), type := 0, pos := "law.go:284", after := #[{ on := 6, ground := Go.Ground.data }, { on := 7, ground := Go.Ground.data }, { on := 4, ground := Go.Ground.guard }], guard := some (4, false) }) (v := ?_) rfl (by kernel_rfl) (by kernel_rfl) (by kernel_rfl) (fun _ _ _ h => h) (Or.inl ⟨by rfl, ?_⟩) (by assumption) ?_
              rotate_left
              · intro wq hSw; (try dsimp only at hSw); go_simp; (try with_reducible rfl)
              try simp only [Act.put, List.setIfInBounds_toArray, List.set_cons_zero, List.set_cons_succ]
              refine wpAnyH_take (i := 9) (oi := { dst := some 53, op := Go.Op.fieldAddr 73 (Go.Operand.tmp 52) 0, type := 0, pos := "law.go:284", after := #[{ on := 8, ground := Go.Ground.data }, { on := 4, ground := Go.Ground.guard }], guard := some (4, false) }) (v := ?_) rfl (by kernel_rfl) (by kernel_rfl) (by kernel_rfl) (fun _ _ _ h => h) (Or.inl ⟨by rfl, ?_⟩) (by assumption) ?_
              rotate_left
              · intro wq hSw; (try dsimp only at hSw); go_simp; (try with_reducible rfl)
              try simp only [Act.put, List.setIfInBounds_toArray, List.set_cons_zero, List.set_cons_succ]
              refine wpAnyH_take (i := 10) (oi := { dst := some 54, op := Go.Op.load 70 (Go.Operand.tmp 53), type := 70, pos := "law.go:284", after := #[{ on := 9, ground := Go.Ground.data }, { on := 4, ground := Go.Ground.guard }], guard := some (4, false) }) (v := ?_) rfl (by kernel_rfl) (by kernel_rfl) (by kernel_rfl) (fun _ _ _ h => h) (Or.inl ⟨by rfl, ?_⟩) (by assumption) ?_
              rotate_left
              · intro wq hSw; (try dsimp only at hSw); go_simp; (try with_reducible rfl)
              try simp only [Act.put, List.setIfInBounds_toArray, List.set_cons_zero, List.set_cons_succ]
              refine wpAnyH_ready (rs := [11]) (by kernel_rfl) (by simp) ?_
              refine AllReadyH.cons (o := { dst := some 55, op := Go.Op.call { callee := Go.Callee.value (Go.Operand.func 38), args := #[Go.Operand.tmp 49, Go.Operand.tmp 54], argTypes := #[70, 70] }, type := 4, pos := "law.go:284", after := #[{ on := 5, ground := Go.Ground.data }, { on := 10, ground := Go.Ground.data }, { on := 4, ground := Go.Ground.chain }, { on := 4, ground := Go.Ground.guard }], guard := some (4, false) }) rfl (fun K hK => ?_) ?_
              rotate_left
              · exact AllReadyH.nil
              go_simp
              refine (sameSpan_any _ _ _ _ _ true (e0)).mono ?_
              rintro e w2 ⟨rfl, hb2⟩
              have hoI : OnlyL [ib] wq w2 := OnlyL.step (by (repeat' (first | with_reducible exact OnlyL.refl _ _ | with_reducible assumption | with_reducible refine OnlyL.drew ?_ | with_reducible refine OnlyL.drewN ?_ _ | with_reducible refine OnlyL.setCell ?_ ?_ _ | with_reducible refine OnlyL.alloc ?_ _ | omega | (simp; done) | (simp; omega)))) hb2
              have hoW : OnlyL [w.heap.size + 1] wq w2 := OnlyL.step (by (repeat' (first | with_reducible exact OnlyL.refl _ _ | with_reducible assumption | with_reducible refine OnlyL.drew ?_ | with_reducible refine OnlyL.drewN ?_ _ | with_reducible refine OnlyL.setCell ?_ ?_ _ | with_reducible refine OnlyL.alloc ?_ _ | omega | (simp; done) | (simp; omega)))) hb2
              replace xI : w2.cell? ⟨ib, 0, none⟩ = some (.int .i64 pre.length) := cellOf hb2 (cell_drew xI)
              replace xP : w2.cell? ⟨w4.heap.size, 0, none⟩ = some (.slice (some ⟨g, off, none⟩) r.length c5) := cellOf hb2 (cell_drew xP)
              replace xB0 : w2.cell? ⟨Bp, 0, none⟩ = some (.int .i64 x.f) := cellOf hb2 (cell_drew xB0)
              replace xB1 : w2.cell? ⟨Bp, 1, none⟩ = some (.int .i64 x.t) := cellOf hb2 (cell_drew xB1)
              replace j0 : w2.cell? ⟨g, off + pre.length * 3, none⟩ = some (.int .i64 p.f) := cellOf hb2 (cell_drew j0)
              replace j1 : w2.cell? ⟨g, off + pre.length * 3 + 1, none⟩ = some (.int .i64 p.t) := cellOf hb2 (cell_drew j1)
              replace j2 : w2.cell? ⟨g, off + pre.length * 3 + 2, none⟩ = some (.int .i64 p.v) := cellOf hb2 (cell_drew j2)
              have RB9 := keepH hb2 (drew_old RB8.out)
              have St9 := keepH hb2 (drew_old St8.out)
              have R9 := keepH hb2 (drew_old R8.out)
              have IB9 := keepH hb2 (drew_old IB8.out)
              go_wp2_with fail
              refine hK.out _ _ ?_ (fun hH1 => ?_)
              · (try dsimp only); exact ⟨xI, xP, xB0, xB1, j0, j1, j2⟩
              clear hK K
              clear hH0
              try simp only [Act.put, List.setIfInBounds_toArray, List.set_cons_zero, List.set_cons_succ]
              refine wpAnyH_take (i := 12) (oi := { dst := some 56, op := Go.Op.unOp Go.UnOp.not 4 (Go.Operand.tmp 55), type := 4, pos := "law.go:284", after := #[{ on := 11, ground := Go.Ground.data }, { on := 4, ground := Go.Ground.guard }], guard := some (4, false) }) (v := ?_) rfl (by kernel_rfl) (by kernel_rfl) (by kernel_rfl) (fun _ _ _ h => h) (Or.inl ⟨by rfl, ?_⟩) (by assumption) ?_
              rotate_left
              · intro wq hSw; (try dsimp only at hSw); go_simp; (try with_reducible rfl)
              try simp only [Act.put, List.setIfInBounds_toArray, List.set_cons_zero, List.set_cons_succ]
              refine wpAnyH_take (i := 13) (oi := { dst := some 57, op := Go.Op.pick (Go.Operand.tmp 48) (Go.Operand.const (Go.Value.bool true)) (Go.Operand.tmp 56), type := 4, pos := "law.go:284", after := #[{ on := 4, ground := Go.Ground.data }, { on := 12, ground := Go.Ground.data }], guard := none }) (v := ?_) rfl (by kernel_rfl) (by kernel_rfl) (by kernel_rfl) (fun _ _ _ h => h) (Or.inl ⟨by rfl, ?_⟩) (by assumption) ?_
              rotate_left
              · intro wq hSw; (try dsimp only at hSw); go_simp; (try with_reducible rfl)
              try simp only [Act.put, List.setIfInBounds_toArray, List.set_cons_zero, List.set_cons_succ]
              refine wpAnyH_take (i := 14) (oi := { dst := some 58, op := Go.Op.move (Go.Operand.tmp 57), type := 4, pos := "law.go:284", after := #[{ on := 13, ground := Go.Ground.data }, { on := 11, ground := Go.Ground.chain }], guard := none }) (v := ?_) rfl (by kernel_rfl) (by kernel_rfl) (by kernel_rfl) (fun _ _ _ h => h) (Or.inl ⟨by rfl, ?_⟩) (by assumption) ?_
              rotate_left
              · intro wq hSw; (try dsimp only at hSw); go_simp; (try with_reducible rfl)
              try simp only [Act.put, List.setIfInBounds_toArray, List.set_cons_zero, List.set_cons_succ]
              refine wpAnyH_take (i := 15) (oi := { dst := some 59, op := Go.Op.move (Go.Operand.tmp 13), type := 3, pos := "law.go:284", after := #[{ on := 14, ground := Go.Ground.guard }], guard := some (14, false) }) (v := ?_) rfl (by kernel_rfl) (by kernel_rfl) (by kernel_rfl) (fun _ _ _ h => h) (Or.inl ⟨by rfl, ?_⟩) (by assumption) ?_
              rotate_left
              · intro wq hSw; (try dsimp only at hSw); go_simp; (try with_reducible rfl)
              try simp only [Act.put, List.setIfInBounds_toArray, List.set_cons_zero, List.set_cons_succ]
              refine wpAnyH_take (i := 16) (oi := { dst := some 60, op := Go.Op.load 59 (Go.Operand.tmp 8), type := 59, pos := "law.go:284", after := #[{ on := 14, ground := Go.Ground.guard }], guard := some (14, false) }) (v := ?_) rfl (by kernel_rfl) (by kernel_rfl) (by kernel_rfl) (fun _ _ _ h => h) (Or.inl ⟨by rfl, ?_⟩) (by assumption) ?_
              rotate_left
              · intro wq hSw; (try dsimp only at hSw); go_simp; (try with_reducible rfl)
              try simp only [Act.put, List.setIfInBounds_toArray, List.set_cons_zero, List.set_cons_succ]
              refine wpAnyH_take (i := 17) (oi := { dst := some 61, op := Go.Op.load 3 (Go.Operand.tmp 11), type := 3, pos := "law.go:284", after := #[{ on := 14, ground := Go.Ground.guard }], guard := some (14, false) }) (v := ?_) rfl (by kernel_rfl) (by kernel_rfl) (by kernel_rfl) (fun _ _ _ h => h) (Or.inl ⟨by rfl, ?_⟩) (by assumption) ?_
              rotate_left
              · intro wq hSw; (try dsimp only at hSw); go_simp; (try with_reducible rfl)
              try simp only [Act.put, List.setIfInBounds_toArray, List.set_cons_zero, List.set_cons_succ]
              refine wpAnyH_take (i := 18) (oi := { dst := some 62, op := Go.Op.indexAddr 59 (Go.Operand.tmp 60) (Go.Operand.tmp 61), type := 0, pos := "law.go:284", after := #[{ on := 16, ground := Go.Ground.data }, { on := 17, ground := Go.Ground.data }, { on := 14, ground := Go.Ground.guard }], guard := some (14, false) }) (v := ?_) rfl (by kernel_rfl) (by kernel_rfl) (by kernel_rfl) (fun _ _ _ h => h) (Or.inl ⟨by rfl, ?_⟩) (by assumption) ?_
              rotate_left
              · intro wq hSw; (try dsimp only at hSw); go_simp; (try with_reducible rfl)
              try simp only [Act.put, List.setIfInBounds_toArray, List.set_cons_zero, List.set_cons_succ]
              refine wpAnyH_take (i := 19) (oi := { dst := some 63, op := Go.Op.fieldAddr 73 (Go.Operand.tmp 62) 1, type := 0, pos := "law.go:284", after := #[{ on := 18, ground := Go.Ground.data }, { on := 14, ground := Go.Ground.guard }], guard := some (14, false) }) (v := ?_) rfl (by kernel_rfl) (by kernel_rfl) (by kernel_rfl) (fun _ _ _ h => h) (Or.inl ⟨by rfl, ?_⟩) (by assumption) ?_
              rotate_left
              · intro wq hSw; (try dsimp only at hSw); go_simp; (try with_reducible rfl)
              try simp only [Act.put, List.setIfInBounds_toArray, List.set_cons_zero, List.set_cons_succ]
              refine wpAnyH_take (i := 20) (oi := { dst := some 64, op := Go.Op.load 3 (Go.Operand.tmp 63), type := 3, pos := "law.go:284", after := #[{ on := 19, ground := Go.Ground.data }, { on := 14, ground := Go.Ground.guard }], guard := some (14, false) }) (v := ?_) rfl (by kernel_rfl) (by kernel_rfl) (by kernel_rfl) (fun _ _ _ h => h) (Or.inl ⟨by rfl, ?_⟩) (by assumption) ?_
              rotate_left
              · intro wq hSw; (try dsimp only at hSw); go_simp; (try with_reducible rfl)
              try simp only [Act.put, List.setIfInBounds_toArray, List.set_cons_zero, List.set_cons_succ]
              refine wpAnyH_take (i := 21) (oi := { dst := some 65, op := Go.Op.binOp Go.BinOp.neq 3 (Go.Operand.tmp 59) (Go.Operand.tmp 64) 3, type := 4, pos := "law.go:284", after := #[{ on := 15, ground := Go.Ground.data }, { on := 20, ground := Go.Ground.data }, { on := 14, ground := Go.Ground.guard }], guard := some (14, false) }) (v := ?_) rfl (by kernel_rfl) (by kernel_rfl) (by kernel_rfl) (fun _ _ _ h => h) (Or.inl ⟨by rfl, ?_⟩) (by assumption) ?_
              rotate_left
              · intro wq hSw; (try dsimp only at hSw); go_simp; (try with_reducible rfl)
              try simp only [Act.put, List.setIfInBounds_toArray, List.set_cons_zero, List.set_cons_succ]
              refine wpAnyH_take (i := 22) (oi := { dst := some 66, op := Go.Op.pick (Go.Operand.tmp 58) (Go.Operand.const (Go.Value.bool true)) (Go.Operand.tmp 65), type := 4, pos := "law.go:284", after := #[{ on := 14, ground := Go.Ground.data }, { on := 21, ground := Go.Ground.data }], guard := none }) (v := ?_) rfl (by kernel_rfl) (by kernel_rfl) (by kernel_rfl) (fun _ _ _ h => h) (Or.inl ⟨by rfl, ?_⟩) (by assumption) ?_
              rotate_left
              · intro wq hSw; (try dsimp only at hSw); go_simp; (try with_reducible rfl)
              try simp only [Act.put, List.setIfInBounds_toArray, List.set_cons_zero, List.set_cons_succ]
              refine wpAnyH_done (by kernel_rfl) ?_ _
              refine noOut_normal ?_
              have hoI2 : OnlyL [ib] wq (w2.setCell ⟨ib, 0, none⟩ (.int .i64 ((pre.length : Int) + 1))) := OnlyL.setCell hoI (.inl (List.mem_singleton.2 rfl)) _
              have HLI : Hid (LiI r ib w7 (pre ++ [x]) (w2.setCell ⟨ib, 0, none⟩ (.int .i64 ((pre.length : Int) + 1)))) := by
                refine ⟨?_, HI2.out.trans (OnlyL.below hoI2 (by omega) (fun k hk => by rw [List.mem_singleton.1 hk]; exact Nat.le_refl _)), ?_⟩
                · rw [show ((pre ++ [x]).length : Int) = (pre.length : Int) + 1 by simp]
                  exact setBox IB9.out _
                · rw [List.length_append, List.length_singleton, HXP.out, take_snoc HP.out, ← HI3.out]
              have HKF := Lib.hid (OnlyL.from hoI2 w7.heap.size HCI.out)
              have HKB := Lib.hid (OnlyL.below hoI2 (m := ib) (by omega) (fun k hk => by rw [List.mem_singleton.1 hk]; exact Nat.le_refl _))
              have cI9 := cellH IB9
              have fI9 := frozH IB9
              have cB9 := cellH RB9
              have cS9 := cellH St9
              have n1 : ib ≠ rb9 := by omega
              have n2 : ib ≠ w.heap.size := by omega
              have kw : IntKind.i64.wrap ((pre.length : Int) + 1) = (pre.length : Int) + 1 := by rw [IntKind.wrap_i64]; omega
              clear RB9 St9 IB9 R9 hH1 xI xP xB0 xB1 j0 j1 j2
              gi_wp2_with fail
              exact ⟨HKF.out, HKB.out, HLI.out⟩
            · have e3 : (x.v != p.v) = true := by simp [hxv]
              have HXP : Hid (¬ x = p) := fun h => hxv (by rw [h])
              clear hxf hxt hxv
              refine round_held_drew (S := fun w' => w'.cell? ⟨ib, 0, none⟩ = some (.int .i64 pre.length) ∧ w'.cell? ⟨w4.heap.size, 0, none⟩ = some (.slice (some ⟨g, off, none⟩) r.length c5) ∧ w'.cell? ⟨Bp, 0, none⟩ = some (.int .i64 x.f) ∧ w'.cell? ⟨Bp, 1, none⟩ = some (.int .i64 x.t) ∧ w'.cell? ⟨g, off + pre.length * 3, none⟩ = some (.int .i64 p.f) ∧ w'.cell? ⟨g, off + pre.length * 3 + 1, none⟩ = some (.int .i64 p.t) ∧ w'.cell? ⟨g, off + pre.length * 3 + 2, none⟩ = some (.int .i64 p.v)) (by kernel_rfl) (by kernel_rfl) ?_ (fun hH0 => ?_)
              · exact ⟨xI, xP, xB0, xB1, j0, j1, j2⟩
              refine wpAnyH_take (i := 0) (oi := { dst := some 44, op := Go.Op.load 3 (Go.Operand.tmp 11), type := 3, pos := "law.go:284", after := #[], guard := none }) (v := ?_) rfl (by kernel_rfl) (by kernel_rfl) (by kernel_rfl) (fun _ _ _ h => h) (Or.inl ⟨by rfl, ?_⟩) (by assumption) ?_
              rotate_left
              · intro wq hSw; (try dsimp only at hSw); go_simp; (try with_reducible rfl)
              try simp only [Act.put, List.setIfInBounds_toArray, List.set_cons_zero, List.set_cons_succ]
              refine wpAnyH_take (i := 1) (oi := { dst := some 45, op := Go.Op.load 59 (Go.Operand.tmp 8), type := 59, pos := "law.go:284", after := #[], guard := none }) (v := ?_) rfl (by kernel_rfl) (by kernel_rfl) (by kernel_rfl) (fun _ _ _ h => h) (Or.inl ⟨by rfl, ?_⟩) (by assumption) ?_
              rotate_left
              · intro wq hSw; (try dsimp only at hSw); go_simp; (try with_reducible rfl)
              try simp only [Act.put, List.setIfInBounds_toArray, List.set_cons_zero, List.set_cons_succ]
              refine wpAnyH_take (i := 2) (oi := { dst := some 46, op := Go.Op.call { callee := Go.Callee.builtin Go.Builtin.len, args := #[Go.Operand.tmp 45], argTypes := #[59] }, type := 3, pos := "law.go:284", after := #[{ on := 1, ground := Go.Ground.data }], guard := none }) (v := ?_) rfl (by kernel_rfl) (by kernel_rfl) (by kernel_rfl) (fun _ _ _ h => h) (Or.inl ⟨by rfl, ?_⟩) (by assumption) ?_
              rotate_left
              · intro wq hSw; (try dsimp only at hSw); go_simp; (try with_reducible rfl)
              try simp only [Act.put, List.setIfInBounds_toArray, List.set_cons_zero, List.set_cons_succ]
              refine wpAnyH_take (i := 3) (oi := { dst := some 47, op := Go.Op.binOp Go.BinOp.geq 3 (Go.Operand.tmp 44) (Go.Operand.tmp 46) 3, type := 4, pos := "law.go:284", after := #[{ on := 0, ground := Go.Ground.data }, { on := 2, ground := Go.Ground.data }], guard := none }) (v := ?_) rfl (by kernel_rfl) (by kernel_rfl) (by kernel_rfl) (fun _ _ _ h => h) (Or.inl ⟨by rfl, ?_⟩) (by assumption) ?_
              rotate_left
              · intro wq hSw; (try dsimp only at hSw); go_simp; (try with_reducible rfl)
              try simp only [Act.put, List.setIfInBounds_toArray, List.set_cons_zero, List.set_cons_succ]
              refine wpAnyH_take (i := 4) (oi := { dst := some 48, op := Go.Op.move (Go.Operand.tmp 47), type := 4, pos := "law.go:284", after := #[{ on := 3, ground := Go.Ground.data }], guard := none }) (v := ?_) rfl (by kernel_rfl) (by kernel_rfl) (by kernel_rfl) (fun _ _ _ h => h) (Or.inl ⟨by rfl, ?_⟩) (by assumption) ?_
              rotate_left
              · intro wq hSw; (try dsimp only at hSw); go_simp; (try with_reducible rfl)
              try simp only [Act.put, List.setIfInBounds_toArray, List.set_cons_zero, List.set_cons_succ]
              refine wpAnyH_take (i := 5) (oi := { dst := some 49, op := Go.Op.load 70 (Go.Operand.tmp 12), type := 70, pos := "law.go:284", after := #[{ on := 4, ground := Go.Ground.guard }], guard := some (4, false) }) (v := ?_) rfl (by kernel_rfl) (by kernel_rfl) (by kernel_rfl) (fun _ _ _ h => h) (Or.inl ⟨by rfl, ?_⟩) (by assumption) ?_
              rotate_left
              · intro wq hSw; (try dsimp only at hSw); go_simp; (try with_reducible rfl)
              try simp only [Act.put, List.setIfInBounds_toArray, List.set_cons_zero, List.set_cons_succ]
              refine wpAnyH_take (i := 6) (oi := { dst := some 50, op := Go.Op.load 59 (Go.Operand.tmp 8), type := 59, pos := "law.go:284", after := #[{ on := 4, ground := Go.Ground.guard }], guard := some (4, false) }) (v := ?_) rfl (by kernel_rfl) (by kernel_rfl) (by kernel_rfl) (fun _ _ _ h => h) (Or.inl ⟨by rfl, ?_⟩) (by assumption) ?_
              rotate_left
              · intro wq hSw; (try dsimp only at hSw); go_simp; (try with_reducible rfl)
              try simp only [Act.put, List.setIfInBounds_toArray, List.set_cons_zero, List.set_cons_succ]
              refine wpAnyH_take (i := 7) (oi := { dst := some 51, op := Go.Op.load 3 (Go.Operand.tmp 11), type := 3, pos := "law.go:284", after := #[{ on := 4, ground := Go.Ground.guard }], guard := some (4, false) }) (v := ?_) rfl (by kernel_rfl) (by kernel_rfl) (by kernel_rfl) (fun _ _ _ h => h) (Or.inl ⟨by rfl, ?_⟩) (by assumption) ?_
              rotate_left
              · intro wq hSw; (try dsimp only at hSw); go_simp; (try with_reducible rfl)
              try simp only [Act.put, List.setIfInBounds_toArray, List.set_cons_zero, List.set_cons_succ]
              refine wpAnyH_take (i := 8) (oi := { dst := some 52, op := Go.Op.indexAddr 59 (Go.Operand.tmp 50) (Go.Operand.tmp 51), type := 0, pos := "law.go:284", after := #[{ on := 6, ground := Go.Ground.data }, { on := 7, ground := Go.Ground.data }, { on := 4, ground := Go.Ground.guard }], guard := some (4, false) }) (v := ?_) rfl (by kernel_rfl) (by kernel_rfl) (by kernel_rfl) (fun _ _ _ h => h) (Or.inl ⟨by rfl, ?_⟩) (by assumption) ?_
              rotate_left
              · intro wq hSw; (try dsimp only at hSw); go_simp; (try with_reducible rfl)
              try simp only [Act.put, List.setIfInBounds_toArray, List.set_cons_zero, List.set_cons_succ]
              refine wpAnyH_take (i := 9) (oi := { dst := some 53, op := Go.Op.fieldAddr 73 (Go.Operand.tmp 52) 0, type := 0, pos := "law.go:284", after := #[{ on := 8, ground := Go.Ground.data }, { on := 4, ground := Go.Ground.guard }], guard := some (4, false) }) (v := ?_) rfl (by kernel_rfl) (by kernel_rfl) (by kernel_rfl) (fun _ _ _ h => h) (Or.inl ⟨by rfl, ?_⟩) (by assumption) ?_
              rotate_left
              · intro wq hSw; (try dsimp only at hSw); go_simp; (try with_reducible rfl)
              try simp only [Act.put, List.setIfInBounds_toArray, List.set_cons_zero, List.set_cons_succ]
              refine wpAnyH_take (i := 10) (oi := { dst := some 54, op := Go.Op.load 70 (Go.Operand.tmp 53), type := 70, pos := "law.go:284", after := #[{ on := 9, ground := Go.Ground.data }, { on := 4, ground := Go.Ground.guard }], guard := some (4, false) }) (v := ?_) rfl (by kernel_rfl) (by kernel_rfl) (by kernel_rfl) (fun _ _ _ h => h) (Or.inl ⟨by rfl, ?_⟩) (by assumption) ?_
              rotate_left
              · intro wq hSw; (try dsimp only at hSw); go_simp; (try with_reducible rfl)
              try simp only [Act.put, List.setIfInBounds_toArray, List.set_cons_zero, List.set_cons_succ]
              refine wpAnyH_ready (rs := [11]) (by kernel_rfl) (by simp) ?_
              refine AllReadyH.cons (o := { dst := some 55, op := Go.Op.call { callee := Go.Callee.value (Go.Operand.func 38), args := #[Go.Operand.tmp 49, Go.Operand.tmp 54], argTypes := #[70, 70] }, type := 4, pos := "law.go:284", after := #[{ on := 5, ground := Go.Ground.data }, { on := 10, ground := Go.Ground.data }, { on := 4, ground := Go.Ground.chain }, { on := 4, ground := Go.Ground.guard }], guard := some (4, false) }) rfl (fun K hK => ?_) ?_
              rotate_left
              · exact AllReadyH.nil
              go_simp
              refine (sameSpan_any _ _ _ _ _ true (e0)).mono ?_
              rintro e w2 ⟨rfl, hb2⟩
              have hoI : OnlyL [ib] wq w2 := OnlyL.step (by (repeat' (first | with_reducible exact OnlyL.refl _ _ | with_reducible assumption | with_reducible refine OnlyL.drew ?_ | with_reducible refine OnlyL.drewN ?_ _ | with_reducible refine OnlyL.setCell ?_ ?_ _ | with_reducible refine OnlyL.alloc ?_ _ | omega | (simp; done) | (simp; omega)))) hb2
              have hoW : OnlyL [w.heap.size + 1] wq w2 := OnlyL.step (by (repeat' (first | with_reducible exact OnlyL.refl _ _ | with_reducible assumption | with_reducible refine OnlyL.drew ?_ | with_reducible refine OnlyL.drewN ?_ _ | with_reducible refine OnlyL.setCell ?_ ?_ _ | with_reducible refine OnlyL.alloc ?_ _ | omega | (simp; done) | (simp; omega)))) hb2
              replace xI : w2.cell? ⟨ib, 0, none⟩ = some (.int .i64 pre.length) := cellOf hb2 (cell_drew xI)
              replace xP : w2.cell? ⟨w4.heap.size, 0, none⟩ = some (.slice (some ⟨g, off, none⟩) r.length c5) := cellOf hb2 (cell_drew xP)
              replace xB0 : w2.cell? ⟨Bp, 0, none⟩ = some (.int .i64 x.f) := cellOf hb2 (cell_drew xB0)
              replace xB1 : w2.cell? ⟨Bp, 1, none⟩ = some (.int .i64 x.t) := cellOf hb2 (cell_drew xB1)
              replace j0 : w2.cell? ⟨g, off + pre.length * 3, none⟩ = some (.int .i64 p.f) := cellOf hb2 (cell_drew j0)
              replace j1 : w2.cell? ⟨g, off + pre.length * 3 + 1, none⟩ = some (.int .i64 p.t) := cellOf hb2 (cell_drew j1)
              replace j2 : w2.cell? ⟨g, off + pre.length * 3 + 2, none⟩ = some (.int .i64 p.v) := cellOf hb2 (cell_drew j2)
              have RB9 := keepH hb2 (drew_old RB8.out)
              have St9 := keepH hb2 (drew_old St8.out)
              have R9 := keepH hb2 (drew_old R8.out)
              have IB9 := keepH hb2 (drew_old IB8.out)
              go_wp2_with fail
              refine hK.out _ _ ?_ (fun hH1 => ?_)
              · (try dsimp only); exact ⟨xI, xP, xB0, xB1, j0, j1, j2⟩
              clear hK K
              clear hH0
              try simp only [Act.put, List.setIfInBounds_toArray, List.set_cons_zero, List.set_cons_succ]
              refine wpAnyH_take (i := 12) (oi := { dst := some 56, op := Go.Op.unOp Go.UnOp.not 4 (Go.Operand.tmp 55), type := 4, pos := "law.go:284", after := #[{ on := 11, ground := Go.Ground.data }, { on := 4, ground := Go.Ground.guard }], guard := some (4, false) }) (v := ?_) rfl (by kernel_rfl) (by kernel_rfl) (by kernel_rfl) (fun _ _ _ h => h) (Or.inl ⟨by rfl, ?_⟩) (by assumption) ?_
              rotate_left
              · intro wq hSw; (try dsimp only at hSw); go_simp; (try with_reducible rfl)
              try simp only [Act.put, List.setIfInBounds_toArray, List.set_cons_zero, List.set_cons_succ]
              refine wpAnyH_take (i := 13) (oi := { dst := some 57, op := Go.Op.pick (Go.Operand.tmp 48) (Go.Operand.const (Go.Value.bool true)) (Go.Operand.tmp 56), type := 4, pos := "law.go:284", after := #[{ on := 4, ground := Go.Ground.data }, { on := 12, ground := Go.Ground.data }], guard := none }) (v := ?_) rfl (by kernel_rfl) (by kernel_rfl) (by kernel_rfl) (fun _ _ _ h => h) (Or.inl ⟨by rfl, ?_⟩) (by assumption) ?_
              rotate_left
              · intro wq hSw; (try dsimp only at hSw); go_simp; (try with_reducible rfl)
              try simp only [Act.put, List.setIfInBounds_toArray, List.set_cons_zero, List.set_cons_succ]
              refine wpAnyH_take (i := 14) (oi := { dst := some 58, op := Go.Op.move (Go.Operand.tmp 57), type := 4, pos := "law.go:284", after := #[{ on := 13, ground := Go.Ground.data }, { on := 11, ground := Go.Ground.chain }], guard := none }) (v := ?_) rfl (by kernel_rfl) (by kernel_rfl) (by kernel_rfl) (fun _ _ _ h => h) (Or.inl ⟨by rfl, ?_⟩) (by assumption) ?_
              rotate_left
              · intro wq hSw; (try dsimp only at hSw); go_simp; (try with_reducible rfl)
              try simp only [Act.put, List.setIfInBounds_toArray, List.set_cons_zero, List.set_cons_succ]
              refine wpAnyH_take (i := 15) (oi := { dst := some 59, op := Go.Op.move (Go.Operand.tmp 13), type := 3, pos := "law.go:284", after := #[{ on := 14, ground := Go.Ground.guard }], guard := some (14, false) }) (v := ?_) rfl (by kernel_rfl) (by kernel_rfl) (by kernel_rfl) (fun _ _ _ h => h) (Or.inl ⟨by rfl, ?_⟩) (by assumption) ?_
              rotate_left
              · intro wq hSw; (try dsimp only at hSw); go_simp; (try with_reducible rfl)
              try simp only [Act.put, List.setIfInBounds_toArray, List.set_cons_zero, List.set_cons_succ]
              refine wpAnyH_take (i := 16) (oi := { dst := some 60, op := Go.Op.load 59 (Go.Operand.tmp 8), type := 59, pos := "law.go:284", after := #[{ on := 14, ground := Go.Ground.guard }], guard := some (14, false) }) (v := ?_) rfl (by kernel_rfl) (by kernel_rfl) (by kernel_rfl) (fun _ _ _ h => h) (Or.inl ⟨by rfl, ?_⟩) (by assumption) ?_
              rotate_left
              · intro wq hSw; (try dsimp only at hSw); go_simp; (try with_reducible rfl)
              try simp only [Act.put, List.setIfInBounds_toArray, List.set_cons_zero, List.set_cons_succ]
              refine wpAnyH_take (i := 17) (oi := { dst := some 61, op := Go.Op.load 3 (Go.Operand.tmp 11), type := 3, pos := "law.go:284", after := #[{ on := 14, ground := Go.Ground.guard }], guard := some (14, false) }) (v := ?_) rfl (by kernel_rfl) (by kernel_rfl) (by kernel_rfl) (fun _ _ _ h => h) (Or.inl ⟨by rfl, ?_⟩) (by assumption) ?_
              rotate_left
              · intro wq hSw; (try dsimp only at hSw); go_simp; (try with_reducible rfl)
              try simp only [Act.put, List.setIfInBounds_toArray, List.set_cons_zero, List.set_cons_succ]
              refine wpAnyH_take (i := 18) (oi := { dst := some 62, op := Go.Op.indexAddr 59 (Go.Operand.tmp 60) (Go.Operand.tmp 61), type := 0, pos := "law.go:284", after := #[{ on := 16, ground := Go.Ground.data }, { on := 17, ground := Go.Ground.data }, { on := 14, ground := Go.Ground.guard }], guard := some (14, false) }) (v := ?_) rfl (by kernel_rfl) (by kernel_rfl) (by kernel_rfl) (fun _ _ _ h => h) (Or.inl ⟨by rfl, ?_⟩) (by assumption) ?_
              rotate_left
              · intro wq hSw; (try dsimp only at hSw); go_simp; (try with_reducible rfl)
              try simp only [Act.put, List.setIfInBounds_toArray, List.set_cons_zero, List.set_cons_succ]
              refine wpAnyH_take (i := 19) (oi := { dst := some 63, op := Go.Op.fieldAddr 73 (Go.Operand.tmp 62) 1, type := 0, pos := "law.go:284", after := #[{ on := 18, ground := Go.Ground.data }, { on := 14, ground := Go.Ground.guard }], guard := some (14, false) }) (v := ?_) rfl (by kernel_rfl) (by kernel_rfl) (by kernel_rfl) (fun _ _ _ h => h) (Or.inl ⟨by rfl, ?_⟩) (by assumption) ?_
              rotate_left
              · intro wq hSw; (try dsimp only at hSw); go_simp; (try with_reducible rfl)
              try simp only [Act.put, List.setIfInBounds_toArray, List.set_cons_zero, List.set_cons_succ]
              refine wpAnyH_take (i := 20) (oi := { dst := some 64, op := Go.Op.load 3 (Go.Operand.tmp 63), type := 3, pos := "law.go:284", after := #[{ on := 19, ground := Go.Ground.data }, { on := 14, ground := Go.Ground.guard }], guard := some (14, false) }) (v := ?_) rfl (by kernel_rfl) (by kernel_rfl) (by kernel_rfl) (fun _ _ _ h => h) (Or.inl ⟨by rfl, ?_⟩) (by assumption) ?_
              rotate_left
              · intro wq hSw; (try dsimp only at hSw); go_simp; (try with_reducible rfl)
              try simp only [Act.put, List.setIfInBounds_toArray, List.set_cons_zero, List.set_cons_succ]
              refine wpAnyH_take (i := 21) (oi := { dst := some 65, op := Go.Op.binOp Go.BinOp.neq 3 (Go.Operand.tmp 59) (Go.Operand.tmp 64) 3, type := 4, pos := "law.go:284", after := #[{ on := 15, ground := Go.Ground.data }, { on := 20, ground := Go.Ground.data }, { on := 14, ground := Go.Ground.guard }], guard := some (14, false) }) (v := ?_) rfl (by kernel_rfl) (by kernel_rfl) (by kernel_rfl) (fun _ _ _ h => h) (Or.inl ⟨by rfl, ?_⟩) (by assumption) ?_
              rotate_left
              · intro wq hSw; (try dsimp only at hSw); go_simp; (try with_reducible rfl)
              try simp only [Act.put, List.setIfInBounds_toArray, List.set_cons_zero, List.set_cons_succ]
              refine wpAnyH_take (i := 22) (oi := { dst := some 66, op := Go.Op.pick (Go.Operand.tmp 58) (Go.Operand.const (Go.Value.bool true)) (Go.Operand.tmp 65), type := 4, pos := "law.go:284", after := #[{ on := 14, ground := Go.Ground.data }, { on := 21, ground := Go.Ground.data }], guard := none }) (v := ?_) rfl (by kernel_rfl) (by kernel_rfl) (by kernel_rfl) (fun _ _ _ h => h) (Or.inl ⟨by rfl, ?_⟩) (by assumption) ?_
              rotate_left
              · intro wq hSw; (try dsimp only at hSw); go_simp; (try with_reducible rfl)
              try simp only [Act.put, List.setIfInBounds_toArray, List.set_cons_zero, List.set_cons_succ]
              refine wpAnyH_done (by kernel_rfl) ?_ _
              refine noOut_normal ?_
              have cR9 := cellH R9
              have fzR9 := frozH R9
              clear RB9 St9 IB9 hH1 xI xP xB0 xB1 j0 j1 j2
              gi_wp2_with fail
              exact ⟨OnlyL.from (L := [w.heap.size + 1]) (OnlyL.setCell hoW (.inl (List.mem_singleton.2 rfl)) _) _ HCL.out, .inl (fun h => HXP.out (prefix_at h HP.out))⟩
          · have e0 : (x.f == p.f && x.t == p.t) = false := by
              rw [Bool.and_eq_false_imp]
              intro h
              rw [beq_eq_false_iff_ne]
              exact fun h2 => hx1 ⟨by simpa using h, h2⟩
            have HXP : Hid (¬ x = p) := fun h => hx1 ⟨by rw [h], by rw [h]⟩
            clear hx1
            refine round_held_drew (S := fun w' => w'.cell? ⟨ib, 0, none⟩ = some (.int .i64 pre.length) ∧ w'.cell? ⟨w4.heap.size, 0, none⟩ = some (.slice (some ⟨g, off, none⟩) r.length c5) ∧ w'.cell? ⟨Bp, 0, none⟩ = some (.int .i64 x.f) ∧ w'.cell? ⟨Bp, 1, none⟩ = some (.int .i64 x.t) ∧ w'.cell? ⟨g, off + pre.length * 3, none⟩ = some (.int .i64 p.f) ∧ w'.cell? ⟨g, off + pre.length * 3 + 1, none⟩ = some (.int .i64 p.t) ∧ w'.cell? ⟨g, off + pre.length * 3 + 2, none⟩ = some (.int .i64 p.v)) (by kernel_rfl) (by kernel_rfl) ?_ (fun hH0 => ?_)
            · exact ⟨xI, xP, xB0, xB1, j0, j1, j2⟩
            refine wpAnyH_take (i := 0) (oi := { dst := some 44, op := Go.Op.load 3 (Go.Operand.tmp 11), type := 3, pos := "law.go:284", after := #[], guard := none }) (v := ?_) rfl (by kernel_rfl) (by kernel_rfl) (by kernel_rfl) (fun _ _ _ h => h) (Or.inl ⟨by rfl, ?_⟩) (by assumption) ?_
            rotate_left
            · intro wq hSw; (try dsimp only at hSw); go_simp; (try with_reducible rfl)
            try simp only [Act.put, List.setIfInBounds_toArray, List.set_cons_zero, List.set_cons_succ]
            refine wpAnyH_take (i := 1) (oi := { dst := some 45, op := Go.Op.load 59 (Go.Operand.tmp 8), type := 59, pos := "law.go:284", after := #[], guard := none }) (v := ?_) rfl (by kernel_rfl) (by kernel_rfl) (by kernel_rfl) (fun _ _ _ h => h) (Or.inl ⟨by rfl, ?_⟩) (by assumption) ?_
            rotate_left
            · intro wq hSw; (try dsimp only at hSw); go_simp; (try with_reducible rfl)
            try simp only [Act.put, List.setIfInBounds_toArray, List.set_cons_zero, List.set_cons_succ]
            refine wpAnyH_take (i := 2) (oi := { dst := some 46, op := Go.Op.call { callee := Go.Callee.builtin Go.Builtin.len, args := #[Go.Operand.tmp 45], argTypes := #[59] }, type := 3, pos := "law.go:284", after := #[{ on := 1, ground := Go.Ground.data }], guard := none }) (v := ?_) rfl (by kernel_rfl) (by kernel_rfl) (by kernel_rfl) (fun _ _ _ h => h) (Or.inl ⟨by rfl, ?_⟩) (by assumption) ?_
            rotate_left
            · intro wq hSw; (try dsimp only at hSw); go_simp; (try with_reducible rfl)
            try simp only [Act.put, List.setIfInBounds_toArray, List.set_cons_zero, List.set_cons_succ]
            refine wpAnyH_take (i := 3) (oi := { dst := some 47, op := Go.Op.binOp Go.BinOp.geq 3 (Go.Operand.tmp 44) (Go.Operand.tmp 46) 3, type := 4, pos := "law.go:284", after := #[{ on := 0, ground := Go.Ground.data }, { on := 2, ground := Go.Ground.data }], guard := none }) (v := ?_) rfl (by kernel_rfl) (by kernel_rfl) (by kernel_rfl) (fun _ _ _ h => h) (Or.inl ⟨by rfl, ?_⟩) (by assumption) ?_
            rotate_left
            · intro wq hSw; (try dsimp only at hSw); go_simp; (try with_reducible rfl)
            try simp only [Act.put, List.setIfInBounds_toArray, List.set_cons_zero, List.set_cons_succ]
            refine wpAnyH_take (i := 4) (oi := { dst := some 48, op := Go.Op.move (Go.Operand.tmp 47), type := 4, pos := "law.go:284", after := #[{ on := 3, ground := Go.Ground.data }], guard := none }) (v := ?_) rfl (by kernel_rfl) (by kernel_rfl) (by kernel_rfl) (fun _ _ _ h => h) (Or.inl ⟨by rfl, ?_⟩) (by assumption) ?_
            rotate_left
            · intro wq hSw; (try dsimp only at hSw); go_simp; (try with_reducible rfl)
            try simp only [Act.put, List.setIfInBounds_toArray, List.set_cons_zero, List.set_cons_succ]
            refine wpAnyH_take (i := 5) (oi := { dst := some 49, op := Go.Op.load 70 (Go.Operand.tmp 12), type := 70, pos := "law.go:284", after := #[{ on := 4, ground := Go.Ground.guard }], guard := some (4, false) }) (v := ?_) rfl (by kernel_rfl) (by kernel_rfl) (by kernel_rfl) (fun _ _ _ h => h) (Or.inl ⟨by rfl, ?_⟩) (by assumption) ?_
            rotate_left
            · intro wq hSw; (try dsimp only at hSw); go_simp; (try with_reducible rfl)
            try simp only [Act.put, List.setIfInBounds_toArray, List.set_cons_zero, List.set_cons_succ]
            refine wpAnyH_take (i := 6) (oi := { dst := some 50, op := Go.Op.load 59 (Go.Operand.tmp 8), type := 59, pos := "law.go:284", after := #[{ on := 4, ground := Go.Ground.guard }], guard := some (4, false) }) (v := ?_) rfl (by kernel_rfl) (by kernel_rfl) (by kernel_rfl) (fun _ _ _ h => h) (Or.inl ⟨by rfl, ?_⟩) (by assumption) ?_
            rotate_left
            · intro wq hSw; (try dsimp only at hSw); go_simp; (try with_reducible rfl)
            try simp only [Act.put, List.setIfInBounds_toArray, List.set_cons_zero, List.set_cons_succ]
            refine wpAnyH_take (i := 7) (oi := { dst := some 51, op := Go.Op.load 3 (Go.Operand.tmp 11), type := 3, pos := "law.go:284", after := #[{ on := 4, ground := Go.Ground.guard }], guard := some (4, false) }) (v := ?_) rfl (by kernel_rfl) (by kernel_rfl) (by kernel_rfl) (fun _ _ _ h => h) (Or.inl ⟨by rfl, ?_⟩) (by assumption) ?_
            rotate_left
            · intro wq hSw; (try dsimp only at hSw); go_simp; (try with_reducible rfl)
            try simp only [Act.put, List.setIfInBounds_toArray, List.set_cons_zero, List.set_cons_succ]
            refine wpAnyH_take (i := 8) (oi := { dst := some 52, op := Go.Op.indexAddr 59 (Go.Operand.tmp 50) (Go.Operand.tmp 51), type := 0, pos := "law.go:284", after := #[{ on := 6, ground := Go.Ground.data }, { on := 7, ground := Go.Ground.data }, { on := 4, ground := Go.Ground.guard }], guard := some (4, false) }) (v := ?_) rfl (by kernel_rfl) (by kernel_rfl) (by kernel_rfl) (fun _ _ _ h => h) (Or.inl ⟨by rfl, ?_⟩) (by assumption) ?_
            rotate_left
            · intro wq hSw; (try dsimp only at hSw); go_simp; (try with_reducible rfl)
            try simp only [Act.put, List.setIfInBounds_toArray, List.set_cons_zero, List.set_cons_succ]
            refine wpAnyH_take (i := 9) (oi := { dst := some 53, op := Go.Op.fieldAddr 73 (Go.Operand.tmp 52) 0, type := 0, pos := "law.go:284", after := #[{ on := 8, ground := Go.Ground.data }, { on := 4, ground := Go.Ground.guard }], guard := some (4, false) }) (v := ?_) rfl (by kernel_rfl) (by kernel_rfl) (by kernel_rfl) (fun _ _ _ h => h) (Or.inl ⟨by rfl, ?_⟩) (by assumption) ?_
            rotate_left
            · intro wq hSw; (try dsimp only at hSw); go_simp; (try with_reducible rfl)
            try simp only [Act.put, List.setIfInBounds_toArray, List.set_cons_zero, List.set_cons_succ]
            refine wpAnyH_take (i := 10) (oi := { dst := some 54, op := Go.Op.load 70 (Go.Operand.tmp 53), type := 70, pos := "law.go:284", after := #[{ on := 9, ground := Go.Ground.data }, { on := 4, ground := Go.Ground.guard }], guard := some (4, false) }) (v := ?_) rfl (by kernel_rfl) (by kernel_rfl) (by kernel_rfl) (fun _ _ _ h => h) (Or.inl ⟨by rfl, ?_⟩) (by assumption) ?_
            rotate_left
            · intro wq hSw; (try dsimp only at hSw); go_simp; (try with_reducible rfl)
            try simp only [Act.put, List.setIfInBounds_toArray, List.set_cons_zero, List.set_cons_succ]
            refine wpAnyH_ready (rs := [11]) (by kernel_rfl) (by simp) ?_
            refine AllReadyH.cons (o := { dst := some 55, op := Go.Op.call { callee := Go.Callee.value (Go.Operand.func 38), args := #[Go.Operand.tmp 49, Go.Operand.tmp 54], argTypes := #[70, 70] }, type := 4, pos := "law.go:284", after := #[{ on := 5, ground := Go.Ground.data }, { on := 10, ground := Go.Ground.data }, { on := 4, ground := Go.Ground.chain }, { on := 4, ground := Go.Ground.guard }], guard := some (4, false) }) rfl (fun K hK => ?_) ?_
            rotate_left
            · exact AllReadyH.nil
            go_simp
            refine (sameSpan_any _ _ _ _ _ false (e0)).mono ?_
            rintro e w2 ⟨rfl, hb2⟩
            have hoI : OnlyL [ib] wq w2 := OnlyL.step (by (repeat' (first | with_reducible exact OnlyL.refl _ _ | with_reducible assumption | with_reducible refine OnlyL.drew ?_ | with_reducible refine OnlyL.drewN ?_ _ | with_reducible refine OnlyL.setCell ?_ ?_ _ | with_reducible refine OnlyL.alloc ?_ _ | omega | (simp; done) | (simp; omega)))) hb2
            have hoW : OnlyL [w.heap.size + 1] wq w2 := OnlyL.step (by (repeat' (first | with_reducible exact OnlyL.refl _ _ | with_reducible assumption | with_reducible refine OnlyL.drew ?_ | with_reducible refine OnlyL.drewN ?_ _ | with_reducible refine OnlyL.setCell ?_ ?_ _ | with_reducible refine OnlyL.alloc ?_ _ | omega | (simp; done) | (simp; omega)))) hb2
            replace xI : w2.cell? ⟨ib, 0, none⟩ = some (.int .i64 pre.length) := cellOf hb2 (cell_drew xI)
            replace xP : w2.cell? ⟨w4.heap.size, 0, none⟩ = some (.slice (some ⟨g, off, none⟩) r.length c5) := cellOf hb2 (cell_drew xP)
            replace xB0 : w2.cell? ⟨Bp, 0, none⟩ = some (.int .i64 x.f) := cellOf hb2 (cell_drew xB0)
            replace xB1 : w2.cell? ⟨Bp, 1, none⟩ = some (.int .i64 x.t) := cellOf hb2 (cell_drew xB1)
            replace j0 : w2.cell? ⟨g, off + pre.length * 3, none⟩ = some (.int .i64 p.f) := cellOf hb2 (cell_drew j0)
            replace j1 : w2.cell? ⟨g, off + pre.length * 3 + 1, none⟩ = some (.int .i64 p.t) := cellOf hb2 (cell_drew j1)
            replace j2 : w2.cell? ⟨g, off + pre.length * 3 + 2, none⟩ = some (.int .i64 p.v) := cellOf hb2 (cell_drew j2)
            have RB9 := keepH hb2 (drew_old RB8.out)
            have St9 := keepH hb2 (drew_old St8.out)
            have R9 := keepH hb2 (drew_old R8.out)
            have IB9 := keepH hb2 (drew_old IB8.out)
            go_wp2_with fail
            refine hK.out _ _ ?_ (fun hH1 => ?_)
            · (try dsimp only); exact ⟨xI, xP, xB0, xB1, j0, j1, j2⟩
            clear hK K
            clear hH0
            try simp only [Act.put, List.setIfInBounds_toArray, List.set_cons_zero, List.set_cons_succ]
            refine wpAnyH_take (i := 12) (oi := { dst := some 56, op := Go.Op.unOp Go.UnOp.not 4 (Go.Operand.tmp 55), type := 4, pos := "law.go:284", after := #[{ on := 11, ground := Go.Ground.data }, { on := 4, ground := Go.Ground.guard }], guard := some (4, false) }) (v := ?_) rfl (by kernel_rfl) (by kernel_rfl) (by kernel_rfl) (fun _ _ _ h => h) (Or.inl ⟨by rfl, ?_⟩) (by assumption) ?_
            rotate_left
            · intro wq hSw; (try dsimp only at hSw); go_simp; (try with_reducible rfl)
            try simp only [Act.put, List.setIfInBounds_toArray, List.set_cons_zero, List.set_cons_succ]
            refine wpAnyH_take (i := 13) (oi := { dst := some 57, op := Go.Op.pick (Go.Operand.tmp 48) (Go.Operand.const (Go.Value.bool true)) (Go.Operand.tmp 56), type := 4, pos := "law.go:284", after := #[{ on := 4, ground := Go.Ground.data }, { on := 12, ground := Go.Ground.data }], guard := none }) (v := ?_) rfl (by kernel_rfl) (by kernel_rfl) (by kernel_rfl) (fun _ _ _ h => h) (Or.inl ⟨by rfl, ?_⟩) (by assumption) ?_
            rotate_left
            · intro wq hSw; (try dsimp only at hSw); go_simp; (try with_reducible rfl)
            try simp only [Act.put, List.setIfInBounds_toArray, List.set_cons_zero, List.set_cons_succ]
            refine wpAnyH_take (i := 14) (oi := { dst := some 58, op := Go.Op.move (Go.Operand.tmp 57), type := 4, pos := "law.go:284", after := #[{ on := 13, ground := Go.Ground.data }, { on := 11, ground := Go.Ground.chain }], guard := none }) (v := ?_) rfl (by kernel_rfl) (by kernel_rfl) (by kernel_rfl) (fun _ _ _ h => h) (Or.inl ⟨by rfl, ?_⟩) (by assumption) ?_
            rotate_left
            · intro wq hSw; (try dsimp only at hSw); go_simp; (try with_reducible rfl)
            try simp only [Act.put, List.setIfInBounds_toArray, List.set_cons_zero, List.set_cons_succ]
            refine wpAnyH_take (i := 15) (oi := { dst := some 59, op := Go.Op.move (Go.Operand.tmp 13), type := 3, pos := "law.go:284", after := #[{ on := 14, ground := Go.Ground.guard }], guard := some (14, false) }) (v := undef) rfl (by kernel_rfl) (by kernel_rfl) (by kernel_rfl) (fun _ _ _ h => h) (Or.inr ⟨by rfl, rfl⟩) (by assumption) ?_
            try simp only [Act.put, List.setIfInBounds_toArray, List.set_cons_zero, List.set_cons_succ]
            refine wpAnyH_take (i := 16) (oi := { dst := some 60, op := Go.Op.load 59 (Go.Operand.tmp 8), type := 59, pos := "law.go:284", after := #[{ on := 14, ground := Go.Ground.guard }], guard := some (14, false) }) (v := undef) rfl (by kernel_rfl) (by kernel_rfl) (by kernel_rfl) (fun _ _ _ h => h) (Or.inr ⟨by rfl, rfl⟩) (by assumption) ?_
            try simp only [Act.put, List.setIfInBounds_toArray, List.set_cons_zero, List.set_cons_succ]
            refine wpAnyH_take (i := 17) (oi := { dst := some 61, op := Go.Op.load 3 (Go.Operand.tmp 11), type := 3, pos := "law.go:284", after := #[{ on := 14, ground := Go.Ground.guard }], guard := some (14, false) }) (v := undef) rfl (by kernel_rfl) (by kernel_rfl) (by kernel_rfl) (fun _ _ _ h => h) (Or.inr ⟨by rfl, rfl⟩) (by assumption) ?_
            try simp only [Act.put, List.setIfInBounds_toArray, List.set_cons_zero, List.set_cons_succ]
            refine wpAnyH_take (i := 18) (oi := { dst := some 62, op := Go.Op.indexAddr 59 (Go.Operand.tmp 60) (Go.Operand.tmp 61), type := 0, pos := "law.go:284", after := #[{ on := 16, ground := Go.Ground.data }, { on := 17, ground := Go.Ground.data }, { on := 14, ground := Go.Ground.guard }], guard := some (14, false) }) (v := undef) rfl (by kernel_rfl) (by kernel_rfl) (by kernel_rfl) (fun _ _ _ h => h) (Or.inr ⟨by rfl, rfl⟩) (by assumption) ?_
            try simp only [Act.put, List.setIfInBounds_toArray, List.set_cons_zero, List.set_cons_succ]
            refine wpAnyH_take (i := 19) (oi := { dst := some 63, op := Go.Op.fieldAddr 73 (Go.Operand.tmp 62) 1, type := 0, pos := "law.go:284", after := #[{ on := 18, ground := Go.Ground.data }, { on := 14, ground := Go.Ground.guard }], guard := some (14, false) }) (v := undef) rfl (by kernel_rfl) (by kernel_rfl) (by kernel_rfl) (fun _ _ _ h => h) (Or.inr ⟨by rfl, rfl⟩) (by assumption) ?_
            try simp only [Act.put, List.setIfInBounds_toArray, List.set_cons_zero, List.set_cons_succ]
            refine wpAnyH_take (i := 20) (oi := { dst := some 64, op := Go.Op.load 3 (Go.Operand.tmp 63), type := 3, pos := "law.go:284", after := #[{ on := 19, ground := Go.Ground.data }, { on := 14, ground := Go.Ground.guard }], guard := some (14, false) }) (v := undef) rfl (by kernel_rfl) (by kernel_rfl) (by kernel_rfl) (fun _ _ _ h => h) (Or.inr ⟨by rfl, rfl⟩) (by assumption) ?_
            try simp only [Act.put, List.setIfInBounds_toArray, List.set_cons_zero, List.set_cons_succ]
            refine wpAnyH_take (i := 21) (oi := { dst := some 65, op := Go.Op.binOp Go.BinOp.neq 3 (Go.Operand.tmp 59) (Go.Operand.tmp 64) 3, type := 4, pos := "law.go:284", after := #[{ on := 15, ground := Go.Ground.data }, { on := 20, ground := Go.Ground.data }, { on := 14, ground := Go.Ground.guard }], guard := some (14, false) }) (v := undef) rfl (by kernel_rfl) (by kernel_rfl) (by kernel_rfl) (fun _ _ _ h => h) (Or.inr ⟨by rfl, rfl⟩) (by assumption) ?_
            try simp only [Act.put, List.setIfInBounds_toArray, List.set_cons_zero, List.set_cons_succ]
            refine wpAnyH_take (i := 22) (oi := { dst := some 66, op := Go.Op.pick (Go.Operand.tmp 58) (Go.Operand.const (Go.Value.bool true)) (Go.Operand.tmp 65), type := 4, pos := "law.go:284", after := #[{ on := 14, ground := Go.Ground.data }, { on := 21, ground := Go.Ground.data }], guard := none }) (v := ?_) rfl (by kernel_rfl) (by kernel_rfl) (by kernel_rfl) (fun _ _ _ h => h) (Or.inl ⟨by rfl, ?_⟩) (by assumption) ?_
            rotate_left
            · intro wq hSw; (try dsimp only at hSw); go_simp; (try with_reducible rfl)
            try simp only [Act.put, List.setIfInBounds_toArray, List.set_cons_zero, List.set_cons_succ]
            refine wpAnyH_done (by kernel_rfl) ?_ _
            refine noOut_normal ?_
            have cR9 := cellH R9
            have fzR9 := frozH R9
            clear RB9 St9 IB9 hH1 xI xP xB0 xB1 j0 j1 j2
            gi_wp2_with fail
            exact ⟨OnlyL.from (L := [w.heap.size + 1]) (OnlyL.setCell hoW (.inl (List.mem_singleton.2 rfl)) _) _ HCL.out, .inl (fun h => HXP.out (prefix_at h HP.out))⟩
        case done1 =>
          intro D1 xs W hD1 hxs hI hK
          rw [hxs] at hI
          obtain ⟨i1, i2, i3⟩ := hI
          subst ha
          have zq := i2.size
          have St8 : Hid (W.heap[w.heap.size]? = some (.cells #[.int .i64 stop] 3 (0, 0))) := (i2.block _ l7St).trans St7.out
          have R8 : Hid (W.heap[w.heap.size + 1]? = some (.cells #[.bool false] 4 (0, 0))) := (i2.block _ l7R).trans R7.out
          have PB8 : Hid (W.heap[w4.heap.size]? = some (.cells #[.slice A5 r.length c5] 59 (0, 0))) := (i2.block _ l7P).trans PB7.out
          have BX8 : Hid (W.heap[Bx]? = some (.cells #[.slice A3 r.length c3] 61 (0, 0))) := (i2.block _ l7B).trans BX7.out
          have RB8 : Hid (W.heap[rb9]? = some (.cells #[.int .i64 1] 3 (0, 0))) := (i2.block _ l7RB).trans RB7.out
          have HKD := Lib.hid hK
          have hw8 : Below w.heap.size w W := hw7.trans (i2.mono zw6)
          have hv8 : Below w4.heap.size w4 W := hv7.trans (i2.mono zv6)
          have hx8 : Below w3.heap.size w3 W := hx7.trans (i2.mono zx6)
          have KD08 := Lib.hid ((i2.block _ (by have := lD0; omega)).trans KD07.out)
          have IB8 : Hid (W.heap[ib]? = some (.cells #[.int .i64 r.length] 3 (0, 0))) := i1
          have cSt := cellH St8
          have cPB := cellH PB8
          have cRB := cellH RB8
          have cIB := cellH IB8
          clear i1 i2 i3 hK hxs
          gi_wp2_with fail
          have RB9 : Hid ((W.alloc (.cells #[.int .i64 2] 3)).heap[W.heap.size]? = some (.cells #[.int .i64 2] 3 (0, 0))) := blk_new rfl
          have St6 := Lib.hid (blk_old (o := .cells #[.int .i64 2] 3) St8.out)
          have R6 := Lib.hid (blk_old (o := .cells #[.int .i64 2] 3) R8.out)
          have PB6 := Lib.hid (blk_old (o := .cells #[.int .i64 2] 3) PB8.out)
          have BX6 := Lib.hid (blk_old (o := .cells #[.int .i64 2] 3) BX8.out)
          have KD1 := Lib.hid (blk_old (o := .cells #[.int .i64 2] 3) HKD.out)
          have KD0b := Lib.hid (blk_old (o := .cells #[.int .i64 2] 3) KD08.out)
          have zw8 := hw8.size
          have zv8 := hv8.size
          have zx8 := hx8.size
          have hw6 : Below w.heap.size w (W.alloc (.cells #[.int .i64 2] 3)) := by (repeat' (first | with_reducible exact Below.refl _ _ | with_reducible assumption | with_reducible refine Below.drew ?_ | with_reducible refine below_drewN ?_ _ | with_reducible refine Below.setCell ?_ ?_ _ | with_reducible refine Below.alloc ?_ ?_ _ | omega | (simp; done) | (simp; omega)))
          have hv6 : Below w4.heap.size w4 (W.alloc (.cells #[.int .i64 2] 3)) := by (repeat' (first | with_reducible exact Below.refl _ _ | with_reducible assumption | with_reducible refine Below.drew ?_ | with_reducible refine below_drewN ?_ _ | with_reducible refine Below.setCell ?_ ?_ _ | with_reducible refine Below.alloc ?_ ?_ _ | omega | (simp; done) | (simp; omega)))
          have hx6 : Below w3.heap.size w3 (W.alloc (.cells #[.int .i64 2] 3)) := by (repeat' (first | with_reducible exact Below.refl _ _ | with_reducible assumption | with_reducible refine Below.drew ?_ | with_reducible refine below_drewN ?_ _ | with_reducible refine Below.setCell ?_ ?_ _ | with_reducible refine Below.alloc ?_ ?_ _ | omega | (simp; done) | (simp; omega)))
          obtain ⟨rb9, hrb⟩ : ∃ rb9, W.heap.size = rb9 := ⟨_, rfl⟩
          clear St8 R8 PB8 BX8 RB8 IB8 HKD hw8 hv8 hx8 cSt cPB cRB cIB St7 R7 PB7 BX7 RB7 IB7 hw7 hv7 hx7 HA7
          generalize (W.alloc (.cells #[.int .i64 2] 3)) = w69 at *
          rw [hrb] at RB9 ⊢
          rw [hrb] at zw8 zv8 zx8 zq
          clear hrb
          have cRB := cellH RB9
          have cP := cellH PB6
          have cR := cellH R6
          have fzR := frozH R6
          rw [roundsIn_succ]
          gi_wp2_with fail

          have k1 : (w69.setCell ⟨w.heap.size + 1, 0, none⟩ (.bool true)).heap[D1]? = some (.deferred (some [])) := (KeepsOthers.setCell _ _ _).same D1 _ KD1.out rfl
          have k0 : ((w69.setCell ⟨w.heap.size + 1, 0, none⟩ (.bool true)).putObj D1 (.deferred none)).heap[D0]? = some (.deferred (some [])) := (World.putObj_heap_other (by omega)).trans ((KeepsOthers.setCell _ _ _).same D0 _ KD0b.out rfl)
          have HR : Hid ((((w69.setCell ⟨w.heap.size + 1, 0, none⟩ (.bool true)).putObj D1 (.deferred none)).putObj D0 (.deferred none)).heap[w.heap.size + 1]? = some (.cells #[.bool true] 4 (0, 0))) := (World.putObj_heap_other (by omega)).trans ((World.putObj_heap_other (by omega)).trans (setBox R6.out _))
          have hB : Below w.heap.size w (((w69.setCell ⟨w.heap.size + 1, 0, none⟩ (.bool true)).putObj D1 (.deferred none)).putObj D0 (.deferred none)) := Below.trans (Below.trans (hw6.setCell (by simp) _) (belowK_b (w := w) (Nat.le_refl _) _ D1 _ _ (by omega) k1 rfl rfl)) (belowK_b (w := w) (Nat.le_refl _) _ D0 _ _ (by omega) k0 rfl rfl)
          refine ⟨by simp, .inl ⟨_, _, rfl, run_takeDeferred k1, ⟨by simp, .inl ⟨_, _, rfl, run_takeDeferred k0, ?_⟩⟩⟩⟩
          clear k1 k0
          generalize (((w69.setCell ⟨w.heap.size + 1, 0, none⟩ (.bool true)).putObj D1 (.deferred none)).putObj D0 (.deferred none)) = wz at HR hB ⊢
          have c4 := cellH HR
          exact ⟨_, (by simp [results, Tryd.results5, go_sem, c4]), rfl, hB⟩

        case stop1 =>
          rintro D1 c pre W hD hpre hX hK
          rcases hX with h | ⟨h1, _, _⟩
          · exact absurd hpre h
          · omega
      · have cIB := cellH IB8
        have e6 : ((pre.length : Int) != (r.length : Int)) = true := by rw [bne_iff_ne]; omega
        have e7 : ((pre.length : Int) == stop) = true := by simp [hst]
        clear hst hpl
        gi_wp2_with fail
        clear e6 e7
        have RB9 : Hid ((W.alloc (.cells #[.int .i64 1] 3)).heap[W.heap.size]? = some (.cells #[.int .i64 1] 3 (0, 0))) := blk_new rfl
        have St6 := Lib.hid (blk_old (o := .cells #[.int .i64 1] 3) St8.out)
        have R6 := Lib.hid (blk_old (o := .cells #[.int .i64 1] 3) R8.out)
        have PB6 := Lib.hid (blk_old (o := .cells #[.int .i64 1] 3) PB8.out)
        have BX6 := Lib.hid (blk_old (o := .cells #[.int .i64 1] 3) BX8.out)
        have KD0 := Lib.hid (blk_old (o := .cells #[.int .i64 1] 3) HKD.out)

        have zw8 := hw8.size
        have zv8 := hv8.size
        have zx8 := hx8.size
        have hw6 : Below w.heap.size w (W.alloc (.cells #[.int .i64 1] 3)) := by (repeat' (first | with_reducible exact Below.refl _ _ | with_reducible assumption | with_reducible refine Below.drew ?_ | with_reducible refine below_drewN ?_ _ | with_reducible refine Below.setCell ?_ ?_ _ | with_reducible refine Below.alloc ?_ ?_ _ | omega | (simp; done) | (simp; omega)))
        have hv6 : Below w4.heap.size w4 (W.alloc (.cells #[.int .i64 1] 3)) := by (repeat' (first | with_reducible exact Below.refl _ _ | with_reducible assumption | with_reducible refine Below.drew ?_ | with_reducible refine below_drewN ?_ _ | with_reducible refine Below.setCell ?_ ?_ _ | with_reducible refine Below.alloc ?_ ?_ _ | omega | (simp; done) | (simp; omega)))
        have hx6 : Below w3.heap.size w3 (W.alloc (.cells #[.int .i64 1] 3)) := by (repeat' (first | with_reducible exact Below.refl _ _ | with_reducible assumption | with_reducible refine Below.drew ?_ | with_reducible refine below_drewN ?_ _ | with_reducible refine Below.setCell ?_ ?_ _ | with_reducible refine Below.alloc ?_ ?_ _ | omega | (simp; done) | (simp; omega)))
        obtain ⟨rb9, hrb⟩ : ∃ rb, W.heap.size = rb := ⟨_, rfl⟩
        clear St8 R8 PB8 BX8 RB8 IB8 HKD hw8 hv8 hx8 cSt cPB cRB cIB St7 R7 PB7 BX7 RB7 IB7 hw7 hv7 hx7 HA7
        generalize (W.alloc (.cells #[.int .i64 1] 3)) = w69 at *
        rw [hrb] at RB9 ⊢
        rw [hrb] at zw8 zv8 zx8 zq
        clear hrb
        have cRB := cellH RB9
        have cP := cellH PB6

        rw [roundsIn_succ]
        gi_wp2_with fail
        have IB7 : Hid ((w69.alloc (.cells #[.int .i64 0] 3)).heap[w69.heap.size]? = some (.cells #[.int .i64 0] 3 (0, 0))) := blk_new rfl
        have St7 := Lib.hid (blk_old (o := .cells #[.int .i64 0] 3) St6.out)
        have R7 := Lib.hid (blk_old (o := .cells #[.int .i64 0] 3) R6.out)
        have PB7 := Lib.hid (blk_old (o := .cells #[.int .i64 0] 3) PB6.out)
        have BX7 := Lib.hid (blk_old (o := .cells #[.int .i64 0] 3) BX6.out)
        have RB7 := Lib.hid (blk_old (o := .cells #[.int .i64 0] 3) RB9.out)
        have KD07 := Lib.hid (blk_old (o := .cells #[.int .i64 0] 3) KD0.out)
        have lD0 : D0 < w69.heap.size := (Array.getElem?_eq_some_iff.1 KD0.out).1
        have zw6 := hw6.size
        have zv6 := hv6.size
        have zx6 := hx6.size
        have hw7 : Below w.heap.size w (w69.alloc (.cells #[.int .i64 0] 3)) := by (repeat' (first | with_reducible exact Below.refl _ _ | with_reducible assumption | with_reducible refine Below.drew ?_ | with_reducible refine below_drewN ?_ _ | with_reducible refine Below.setCell ?_ ?_ _ | with_reducible refine Below.alloc ?_ ?_ _ | omega | (simp; done) | (simp; omega)))
        have hv7 : Below w4.heap.size w4 (w69.alloc (.cells #[.int .i64 0] 3)) := by (repeat' (first | with_reducible exact Below.refl _ _ | with_reducible assumption | with_reducible refine Below.drew ?_ | with_reducible refine below_drewN ?_ _ | with_reducible refine Below.setCell ?_ ?_ _ | with_reducible refine Below.alloc ?_ ?_ _ | omega | (simp; done) | (simp; omega)))
        have hx7 : Below w3.heap.size w3 (w69.alloc (.cells #[.int .i64 0] 3)) := by (repeat' (first | with_reducible exact Below.refl _ _ | with_reducible assumption | with_reducible refine Below.drew ?_ | with_reducible refine below_drewN ?_ _ | with_reducible refine Below.setCell ?_ ?_ _ | with_reducible refine Below.alloc ?_ ?_ _ | omega | (simp; done) | (simp; omega)))
        have hu7 : w69.heap.size < (w69.alloc (.cells #[.int .i64 0] 3)).heap.size := by simp
        have l7St := lt_of_H St6
        have l7R := lt_of_H R6
        have l7P := lt_of_H PB6
        have l7B := lt_of_H BX6
        have l7RB := lt_of_H RB9
        obtain ⟨ib, hib⟩ : ∃ ib, w69.heap.size = ib := ⟨_, rfl⟩
        clear St6 R6 PB6 BX6 RB9 hw6 hv6 hx6 cRB cP
        generalize (w69.alloc (.cells #[.int .i64 0] 3)) = w7 at *
        rw [hib] at IB7 hu7 l7St l7R l7P l7B l7RB zw6 zv6 zx6 lD0 ⊢
        clear hib
        have HA7 : RowAt encP 3 w7 ib A3 r := (HROW.out.below hx7 (Nat.le_refl _)).more zx6
        generalize ha : Act.mk _ _ = a0
        refine wpIn_rangeFunc_ownH rfl (by decide) (gf := 98) (lb := #[.pointer (some ⟨Bx, 0, none⟩)]) (by rw [← ha]; rfl) trivial (enters_of Tryd.func98 (by kernel_rfl) rfl)
          (all1_stops r A3 c3 (by omega) (3 - 1) Bx ib l7B w7 (Nat.le_of_lt hu7) BX7 HA7)
          Below.trans (fun W l o o' hl h q1 q2 => (keepR_b (m := ib) (lo := 0) (hi := 0) (Nat.le_of_lt hu7) (Nat.zero_le _) W l o o' hl h q1 q2).below) (Below.refl _ _) (fun x => rfl)
          (LiI r ib w7) (LiX r ib w7 (-1)) (LiI_own (Nat.le_of_lt hu7) (Nat.le_refl _)) (fun c => LiX_own c (Nat.le_of_lt hu7) (Nat.le_refl _)) ⟨IB7.out, Below.refl _ _, rfl⟩
          (fun x a' W => ∃ Bp, w7.heap.size ≤ Bp ∧ W.heap[Bp]? = some (.cells #[.int .i64 x.f, .int .i64 x.t] 70 (0, 0)) ∧ a' = { tmps := (((a0.tmps.setIfInBounds 42 (.agg #[.int .i64 x.f, .int .i64 x.t])).setIfInBounds 43 (.int .i64 x.v)).setIfInBounds 12 (.pointer (some ⟨Bp, 0, none⟩))).setIfInBounds 13 (.int .i64 x.v), defers := [] })
          (fun x a' s W W' row hs hg hr => by obtain ⟨Bp, h2, h3, h4⟩ := hs; exact ⟨Bp, h2, ownBlk h3 hg hr, h4⟩) ?assign1 ?body1 ?done1 ?stop1
        case assign1 =>
          intro l9 pre x W K hI hK
          obtain ⟨i1, i2, i3⟩ := hI
          have zz := i2.size
          subst ha
          simp only [encS]
          gi_wp2_with fail
          have h9 := hK _ _ ((KeepsOthers.alloc W (.cells #[.int .i64 x.f, .int .i64 x.t] 70)).from _) ((Below.refl _ _).alloc (by omega) _) ⟨blk_old i1, i2.alloc (by omega) _, i3⟩ ⟨_, zz, blk_new rfl, rfl⟩
          simp only [List.setIfInBounds_toArray, List.set_cons_zero, List.set_cons_succ] at h9
          exact h9
        case body1 =>
          rintro l9 pre x a' wq hl9 ⟨rr, hrr⟩ ⟨i1, i2, i3⟩ ⟨Bp, p2, p3, rfl⟩ hlt
          have zq := i2.size
          subst ha
          try simp only [List.setIfInBounds_toArray, List.set_cons_zero, List.set_cons_succ]
          have St8 : Hid (wq.heap[w.heap.size]? = some (.cells #[.int .i64 stop] 3 (0, 0))) := (i2.block _ l7St).trans St7.out
          have R8 : Hid (wq.heap[w.heap.size + 1]? = some (.cells #[.bool false] 4 (0, 0))) := (i2.block _ l7R).trans R7.out
          have PB8 : Hid (wq.heap[w4.heap.size]? = some (.cells #[.slice A5 r.length c5] 59 (0, 0))) := (i2.block _ l7P).trans PB7.out
          have RB8 : Hid (wq.heap[rb9]? = some (.cells #[.int .i64 1] 3 (0, 0))) := (i2.block _ l7RB).trans RB7.out
          have IB8 : Hid (wq.heap[ib]? = some (.cells #[.int .i64 pre.length] 3 (0, 0))) := i1
          have P8 : Hid (wq.heap[Bp]? = some (.cells #[.int .i64 x.f, .int .i64 x.t] 70 (0, 0))) := p3
          obtain ⟨p, hp⟩ : ∃ p, r[pre.length]? = some p := ⟨r[pre.length], List.getElem?_eq_getElem hlt⟩
          obtain ⟨g, off, hA5, hg, j0, j1, j2⟩ := cells3 ((HR5.out.below hv7 (Nat.le_refl _)).below i2 zv6) hp
          subst hA5
          have HP := Lib.hid hp
          have HI2 := Lib.hid i2
          have HI3 := Lib.hid i3
          have xP : wq.cell? ⟨w4.heap.size, 0, none⟩ = some (.slice (some ⟨g, off, none⟩) r.length c5) := cellH PB8 0
          have xI : wq.cell? ⟨ib, 0, none⟩ = some (.int .i64 pre.length) := cellH IB8 0
          have xB0 : wq.cell? ⟨Bp, 0, none⟩ = some (.int .i64 x.f) := cellH P8 0
          have xB1 : wq.cell? ⟨Bp, 1, none⟩ = some (.int .i64 x.t) := cellH P8 1
          have hlt2 : (pre.length : Int) < (r.length : Int) := by omega
          have k2 : (0 : Int) ≤ (pre.length : Int) := by omega
          have k6 : ((pre.length : Int)).toNat = pre.length := by omega
          have hge : decide (r.length ≤ pre.length) = false := decide_eq_false (by omega)
          have hBw := lt_of_H P8
          have zB := zw6
          clear hp i1 i2 i3 p3
          gi_upto_region 18 with fail
          have HCL : Hid (∀ k ∈ [w.heap.size + 1], ∃ cs t z, wq.heap[k]? = some (.cells cs t z)) := by
            intro k hk
            simp only [List.mem_cons, List.not_mem_nil, or_false] at hk
            subst hk
            exact ⟨_, _, _, R8.out⟩
          have HCI : Hid (∀ k ∈ [ib], ∃ cs t z, wq.heap[k]? = some (.cells cs t z)) := by
            intro k hk
            simp only [List.mem_cons, List.not_mem_nil, or_false] at hk
            subst hk
            exact ⟨_, _, _, IB8.out⟩
          by_cases hx1 : x.f = p.f ∧ x.t = p.t
          · obtain ⟨hxf, hxt⟩ := hx1
            have e0 : (x.f == p.f && x.t == p.t) = true := by simp [hxf, hxt]
            by_cases hxv : x.v = p.v
            · have e3 : (x.v != p.v) = false := by simp [hxv]
              have HXP : Hid (x = p) := by show x = p; cases x; cases p; simp_all
              clear hxf hxt hxv
              refine round_held_drew (S := fun w' => w'.cell? ⟨ib, 0, none⟩ = some (.int .i64 pre.length) ∧ w'.cell? ⟨w4.heap.size, 0, none⟩ = some (.slice (some ⟨g, off, none⟩) r.length c5) ∧ w'.cell? ⟨Bp, 0, none⟩ = some (.int .i64 x.f) ∧ w'.cell? ⟨Bp, 1, none⟩ = some (.int .i64 x.t) ∧ w'.cell? ⟨g, off + pre.length * 3, none⟩ = some (.int .i64 p.f) ∧ w'.cell? ⟨g, off + pre.length * 3 + 1, none⟩ = some (.int .i64 p.t) ∧ w'.cell? ⟨g, off + pre.length * 3 + 2, none⟩ = some (.int .i64 p.v)) (by kernel_rfl) (by kernel_rfl) ?_ (fun hH0 => ?_)
              · exact ⟨xI, xP, xB0, xB1, j0, j1, j2⟩
              refine wpAnyH_take (i := 0) (oi := { dst := some 44, op := Go.Op.load 3 (Go.Operand.tmp 11), type := 3, pos := "law.go:284", after := #[], guard := none }) (v := ?_) rfl (by kernel_rfl) (by kernel_rfl) (by kernel_rfl) (fun _ _ _ h => h) (Or.inl ⟨by rfl, ?_⟩) (by assumption) ?_
              rotate_left
              · intro wq hSw; (try dsimp only at hSw); go_simp; (try with_reducible rfl)
              try simp only [Act.put, List.setIfInBounds_toArray, List.set_cons_zero, List.set_cons_succ]
              refine wpAnyH_take (i := 1) (oi := { dst := some 45, op := Go.Op.load 59 (Go.Operand.tmp 8), type := 59, pos := "law.go:284", after := #[], guard := none }) (v := ?_) rfl (by kernel_rfl) (by kernel_rfl) (by kernel_rfl) (fun _ _ _ h => h) (Or.inl ⟨by rfl, ?_⟩) (by assumption) ?_
              rotate_left
              · intro wq hSw; (try dsimp only at hSw); go_simp; (try with_reducible rfl)
              try simp only [Act.put, List.setIfInBounds_toArray, List.set_cons_zero, List.set_cons_succ]
              refine wpAnyH_take (i := 2) (oi := { dst := some 46, op := Go.Op.call { callee := Go.Callee.builtin Go.Builtin.len, args := #[Go.Operand.tmp 45], argTypes := #[59] }, type := 3, pos := "law.go:284", after := #[{ on := 1, ground := Go.Ground.data }], guard := none }) (v := ?_) rfl (by kernel_rfl) (by kernel_rfl) (by kernel_rfl) (fun _ _ _ h => h) (Or.inl ⟨by rfl, ?_⟩) (by assumption) ?_
              rotate_left
              · intro wq hSw; (try dsimp only at hSw); go_simp; (try with_reducible rfl)
              try simp only [Act.put, List.setIfInBounds_toArray, List.set_cons_zero, List.set_cons_succ]
              refine wpAnyH_take (i := 3) (oi := { dst := some 47, op := Go.Op.binOp Go.BinOp.geq 3 (Go.Operand.tmp 44) (Go.Operand.tmp 46) 3, type := 4, pos := "law.go:284", after := #[{ on := 0, ground := Go.Ground.data }, { on := 2, ground := Go.Ground.data }], guard := none }) (v := ?_) rfl (by kernel_rfl) (by kernel_rfl) (by kernel_rfl) (fun _ _ _ h => h) (Or.inl ⟨by rfl, ?_⟩) (by assumption) ?_
              rotate_left
              · intro wq hSw; (try dsimp only at hSw); go_simp; (try with_reducible rfl)
              try simp only [Act.put, List.setIfInBounds_toArray, List.set_cons_zero, List.set_cons_succ]
              refine wpAnyH_take (i := 4) (oi := { dst := some 48, op := Go.Op.move (Go.Operand.tmp 47), type := 4, pos := "law.go:284", after := #[{ on := 3, ground := Go.Ground.data }], guard := none }) (v := ?_) rfl (by kernel_rfl) (by kernel_rfl) (by kernel_rfl) (fun _ _ _ h => h) (Or.inl ⟨by rfl, ?_⟩) (by assumption) ?_
              rotate_left
              · intro wq hSw; (try dsimp only at hSw); go_simp; (try with_reducible rfl)
              try simp only [Act.put, List.setIfInBounds_toArray, List.set_cons_zero, List.set_cons_succ]
              refine wpAnyH_take (i := 5) (oi := { dst := some 49, op := Go.Op.load 70 (Go.Operand.tmp 12), type := 70, pos := "law.go:284", after := #[{ on := 4, ground := Go.Ground.guard }], guard := some (4, false) }) (v := ?_) rfl (by kernel_rfl) (by kernel_rfl) (by kernel_rfl) (fun _ _ _ h => h) (Or.inl ⟨by rfl, ?_⟩) (by assumption) ?_
              rotate_left
              · intro wq hSw; (try dsimp only at hSw); go_simp; (try with_reducible rfl)
              try simp only [Act.put, List.setIfInBounds_toArray, List.set_cons_zero, List.set_cons_succ]
              refine wpAnyH_take (i := 6) (oi := { dst := some 50, op := Go.Op.load 59 (Go.Operand.tmp 8), type := 59, pos := "law.go:284", after := #[{ on := 4, ground := Go.Ground.guard }], guard := some (4, false) }) (v := ?_) rfl (by kernel_rfl) (by kernel_rfl) (by kernel_rfl) (fun _ _ _ h => h) (Or.inl ⟨by rfl, ?_⟩) (by assumption) ?_
              rotate_left
              · intro wq hSw; (try dsimp only at hSw); go_simp; (try with_reducible rfl)
              try simp only [Act.put, List.setIfInBounds_toArray, List.set_cons_zero, List.set_cons_succ]
              refine wpAnyH_take (i := 7) (oi := { dst := some 51, op := Go.Op.load 3 (Go.Operand.tmp 11), type := 3, pos := "law.go:284", after := #[{ on := 4, ground := Go.Ground.guard }], guard := some (4, false) }) (v := ?_) rfl (by kernel_rfl) (by kernel_rfl) (by kernel_rfl) (fun _ _ _ h => h) (Or.inl ⟨by rfl, ?_⟩) (by assumption) ?_
              rotate_left
              · intro wq hSw; (try dsimp only at hSw); go_simp; (try with_reducible rfl)
              try simp only [Act.put, List.setIfInBounds_toArray, List.set_cons_zero, List.set_cons_succ]
              refine wpAnyH_take (i := 8) (oi := { dst := some 52, op := Go.Op.indexAddr 59 (Go.Operand.tmp 50) (Go.Operand.tmp 51), type := 0, pos := "law.go:284", after := #[{ on := 6, ground := Go.Ground.data }, { on := 7, ground := Go.Ground.data }, { on := 4, ground := Go.Ground.guard }], guard := some (4, false) }) (v := ?_) rfl (by kernel_rfl) (by kernel_rfl) (by kernel_rfl) (fun _ _ _ h => h) (Or.inl ⟨by rfl, ?_⟩) (by assumption) ?_
              rotate_left
              · intro wq hSw; (try dsimp only at hSw); go_simp; (try with_reducible rfl)
              try simp only [Act.put, List.setIfInBounds_toArray, List.set_cons_zero, List.set_cons_succ]
              refine wpAnyH_take (i := 9) (oi := { dst := some 53, op := Go.Op.fieldAddr 73 (Go.Operand.tmp 52) 0, type := 0, pos := "law.go:284", after := #[{ on := 8, ground := Go.Ground.data }, { on := 4, ground := Go.Ground.guard }], guard := some (4, false) }) (v := ?_) rfl (by kernel_rfl) (by kernel_rfl) (by kernel_rfl) (fun _ _ _ h => h) (Or.inl ⟨by rfl, ?_⟩) (by assumption) ?_
              rotate_left
              · intro wq hSw; (try dsimp only at hSw); go_simp; (try with_reducible rfl)
              try simp only [Act.put, List.setIfInBounds_toArray, List.set_cons_zero, List.set_cons_succ]
              refine wpAnyH_take (i := 10) (oi := { dst := some 54, op := Go.Op.load 70 (Go.Operand.tmp 53), type := 70, pos := "law.go:284", after := #[{ on := 9, ground := Go.Ground.data }, { on := 4, ground := Go.Ground.guard }], guard := some (4, false) }) (v := ?_) rfl (by kernel_rfl) (by kernel_rfl) (by kernel_rfl) (fun _ _ _ h => h) (Or.inl ⟨by rfl, ?_⟩) (by assumption) ?_
              rotate_left
              · intro wq hSw; (try dsimp only at hSw); go_simp; (try with_reducible rfl)
              try simp only [Act.put, List.setIfInBounds_toArray, List.set_cons_zero, List.set_cons_succ]
              refine wpAnyH_ready (rs := [11]) (by kernel_rfl) (by simp) ?_
              refine AllReadyH.cons (o := { dst := some 55, op := Go.Op.call { callee := Go.Callee.value (Go.Operand.func 38), args := #[Go.Operand.tmp 49, Go.Operand.tmp 54], argTypes := #[70, 70] }, type := 4, pos := "law.go:284", after := #[{ on := 5, ground := Go.Ground.data }, { on := 10, ground := Go.Ground.data }, { on := 4, ground := Go.Ground.chain }, { on := 4, ground := Go.Ground.guard }], guard := some (4, false) }) rfl (fun K hK => ?_) ?_
              rotate_left
              · exact AllReadyH.nil
              go_simp
              refine (sameSpan_any _ _ _ _ _ true (e0)).mono ?_
              rintro e w2 ⟨rfl, hb2⟩
              have hoI : OnlyL [ib] wq w2 := OnlyL.step (by (repeat' (first | with_reducible exact OnlyL.refl _ _ | with_reducible assumption | with_reducible refine OnlyL.drew ?_ | with_reducible refine OnlyL.drewN ?_ _ | with_reducible refine OnlyL.setCell ?_ ?_ _ | with_reducible refine OnlyL.alloc ?_ _ | omega | (simp; done) | (simp; omega)))) hb2
              have hoW : OnlyL [w.heap.size + 1] wq w2 := OnlyL.step (by (repeat' (first | with_reducible exact OnlyL.refl _ _ | with_reducible assumption | with_reducible refine OnlyL.drew ?_ | with_reducible refine OnlyL.drewN ?_ _ | with_reducible refine OnlyL.setCell ?_ ?_ _ | with_reducible refine OnlyL.alloc ?_ _ | omega | (simp; done) | (simp; omega)))) hb2
              replace xI : w2.cell? ⟨ib, 0, none⟩ = some (.int .i64 pre.length) := cellOf hb2 (cell_drew xI)
              replace xP : w2.cell? ⟨w4.heap.size, 0, none⟩ = some (.slice (some ⟨g, off, none⟩) r.length c5) := cellOf hb2 (cell_drew xP)
              replace xB0 : w2.cell? ⟨Bp, 0, none⟩ = some (.int .i64 x.f) := cellOf hb2 (cell_drew xB0)
              replace xB1 : w2.cell? ⟨Bp, 1, none⟩ = some (.int .i64 x.t) := cellOf hb2 (cell_drew xB1)
              replace j0 : w2.cell? ⟨g, off + pre.length * 3, none⟩ = some (.int .i64 p.f) := cellOf hb2 (cell_drew j0)
              replace j1 : w2.cell? ⟨g, off + pre.length * 3 + 1, none⟩ = some (.int .i64 p.t) := cellOf hb2 (cell_drew j1)
              replace j2 : w2.cell? ⟨g, off + pre.length * 3 + 2, none⟩ = some (.int .i64 p.v) := cellOf hb2 (cell_drew j2)
              have RB9 := keepH hb2 (drew_old RB8.out)
              have St9 := keepH hb2 (drew_old St8.out)
              have R9 := keepH hb2 (drew_old R8.out)
              have IB9 := keepH hb2 (drew_old IB8.out)
              go_wp2_with fail
              refine hK.out _ _ ?_ (fun hH1 => ?_)
              · (try dsimp only); exact ⟨xI, xP, xB0, xB1, j0, j1, j2⟩
              clear hK K
              clear hH0
              try simp only [Act.put, List.setIfInBounds_toArray, List.set_cons_zero, List.set_cons_succ]
              refine wpAnyH_take (i := 12) (oi := { dst := some 56, op := Go.Op.unOp Go.UnOp.not 4 (Go.Operand.tmp 55), type := 4, pos := "law.go:284", after := #[{ on := 11, ground := Go.Ground.data }, { on := 4, ground := Go.Ground.guard }], guard := some (4, false) }) (v := ?_) rfl (by kernel_rfl) (by kernel_rfl) (by kernel_rfl) (fun _ _ _ h => h) (Or.inl ⟨by rfl, ?_⟩) (by assumption) ?_
              rotate_left
              · intro wq hSw; (try dsimp only at hSw); go_simp; (try with_reducible rfl)
              try simp only [Act.put, List.setIfInBounds_toArray, List.set_cons_zero, List.set_cons_succ]
              refine wpAnyH_take (i := 13) (oi := { dst := some 57, op := Go.Op.pick (Go.Operand.tmp 48) (Go.Operand.const (Go.Value.bool true)) (Go.Operand.tmp 56), type := 4, pos := "law.go:284", after := #[{ on := 4, ground := Go.Ground.data }, { on := 12, ground := Go.Ground.data }], guard := none }) (v := ?_) rfl (by kernel_rfl) (by kernel_rfl) (by kernel_rfl) (fun _ _ _ h => h) (Or.inl ⟨by rfl, ?_⟩) (by assumption) ?_
              rotate_left
              · intro wq hSw; (try dsimp only at hSw); go_simp; (try with_reducible rfl)
              try simp only [Act.put, List.setIfInBounds_toArray, List.set_cons_zero, List.set_cons_succ]
              refine wpAnyH_take (i := 14) (oi := { dst := some 58, op := Go.Op.move (Go.Operand.tmp 57), type := 4, pos := "law.go:284", after := #[{ on := 13, ground := Go.Ground.data }, { on := 11, ground := Go.Ground.chain }], guard := none }) (v := ?_) rfl (by kernel_rfl) (by kernel_rfl) (by kernel_rfl) (fun _ _ _ h => h) (Or.inl ⟨by rfl, ?_⟩) (by assumption) ?_
              rotate_left
              · intro wq hSw; (try dsimp only at hSw); go_simp; (try with_reducible rfl)
              try simp only [Act.put, List.setIfInBounds_toArray, List.set_cons_zero, List.set_cons_succ]
              refine wpAnyH_take (i := 15) (oi := { dst := some 59, op := Go.Op.move (Go.Operand.tmp 13), type := 3, pos := "law.go:284", after := #[{ on := 14, ground := Go.Ground.guard }], guard := some (14, false) }) (v := ?_) rfl (by kernel_rfl) (by kernel_rfl) (by kernel_rfl) (fun _ _ _ h => h) (Or.inl ⟨by rfl, ?_⟩) (by assumption) ?_
              rotate_left
              · intro wq hSw; (try dsimp only at hSw); go_simp; (try with_reducible rfl)
              try simp only [Act.put, List.setIfInBounds_toArray, List.set_cons_zero, List.set_cons_succ]
              refine wpAnyH_take (i := 16) (oi := { dst := some 60, op := Go.Op.load 59 (Go.Operand.tmp 8), type := 59, pos := "law.go:284", after := #[{ on := 14, ground := Go.Ground.guard }], guard := some (14, false) }) (v := ?_) rfl (by kernel_rfl) (by kernel_rfl) (by kernel_rfl) (fun _ _ _ h => h) (Or.inl ⟨by rfl, ?_⟩) (by assumption) ?_
              rotate_left
              · intro wq hSw; (try dsimp only at hSw); go_simp; (try with_reducible rfl)
              try simp only [Act.put, List.setIfInBounds_toArray, List.set_cons_zero, List.set_cons_succ]
              refine wpAnyH_take (i := 17) (oi := { dst := some 61, op := Go.Op.load 3 (Go.Operand.tmp 11), type := 3, pos := "law.go:284", after := #[{ on := 14, ground := Go.Ground.guard }], guard := some (14, false) }) (v := ?_) rfl (by kernel_rfl) (by kernel_rfl) (by kernel_rfl) (fun _ _ _ h => h) (Or.inl ⟨by rfl, ?_⟩) (by assumption) ?_
              rotate_left
              · intro wq hSw; (try dsimp only at hSw); go_simp; (try with_reducible rfl)
              try simp only [Act.put, List.setIfInBounds_toArray, List.set_cons_zero, List.set_cons_succ]
              refine wpAnyH_take (i := 18) (oi := { dst := some 62, op := Go.Op.indexAddr 59 (Go.Operand.tmp 60) (Go.Operand.tmp 61), type := 0, pos := "law.go:284", after := #[{ on := 16, ground := Go.Ground.data }, { on := 17, ground := Go.Ground.data }, { on := 14, ground := Go.Ground.guard }], guard := some (14, false) }) (v := ?_) rfl (by kernel_rfl) (by kernel_rfl) (by kernel_rfl) (fun _ _ _ h => h) (Or.inl ⟨by rfl, ?_⟩) (by assumption) ?_
              rotate_left
              · intro wq hSw; (try dsimp only at hSw); go_simp; (try with_reducible rfl)
              try simp only [Act.put, List.setIfInBounds_toArray, List.set_cons_zero, List.set_cons_succ]
              refine wpAnyH_take (i := 19) (oi := { dst := some 63, op := Go.Op.fieldAddr 73 (Go.Operand.tmp 62) 1, type := 0, pos := "law.go:284", after := #[{ on := 18, ground := Go.Ground.data }, { on := 14, ground := Go.Ground.guard }], guard := some (14, false) }) (v := ?_) rfl (by kernel_rfl) (by kernel_rfl) (by kernel_rfl) (fun _ _ _ h => h) (Or.inl ⟨by rfl, ?_⟩) (by assumption) ?_
              rotate_left
              · intro wq hSw; (try dsimp only at hSw); go_simp; (try with_reducible rfl)
              try simp only [Act.put, List.setIfInBounds_toArray, List.set_cons_zero, List.set_cons_succ]
              refine wpAnyH_take (i := 20) (oi := { dst := some 64, op := Go.Op.load 3 (Go.Operand.tmp 63), type := 3, pos := "law.go:284", after := #[{ on := 19, ground := Go.Ground.data }, { on := 14, ground := Go.Ground.guard }], guard := some (14, false) }) (v := ?_) rfl (by kernel_rfl) (by kernel_rfl) (by kernel_rfl) (fun _ _ _ h => h) (Or.inl ⟨by rfl, ?_⟩) (by assumption) ?_
              rotate_left
              · intro wq hSw; (try dsimp only at hSw); go_simp; (try with_reducible rfl)
              try simp only [Act.put, List.setIfInBounds_toArray, List.set_cons_zero, List.set_cons_succ]
              refine wpAnyH_take (i := 21) (oi := { dst := some 65, op := Go.Op.binOp Go.BinOp.neq 3 (Go.Operand.tmp 59) (Go.Operand.tmp 64) 3, type := 4, pos := "law.go:284", after := #[{ on := 15, ground := Go.Ground.data }, { on := 20, ground := Go.Ground.data }, { on := 14, ground := Go.Ground.guard }], guard := some (14, false) }) (v := ?_) rfl (by kernel_rfl) (by kernel_rfl) (by kernel_rfl) (fun _ _ _ h => h) (Or.inl ⟨by rfl, ?_⟩) (by assumption) ?_
              rotate_left
              · intro wq hSw; (try dsimp only at hSw); go_simp; (try with_reducible rfl)
              try simp only [Act.put, List.setIfInBounds_toArray, List.set_cons_zero, List.set_cons_succ]
              refine wpAnyH_take (i := 22) (oi := { dst := some 66, op := Go.Op.pick (Go.Operand.tmp 58) (Go.Operand.const (Go.Value.bool true)) (Go.Operand.tmp 65), type := 4, pos := "law.go:284", after := #[{ on := 14, ground := Go.Ground.data }, { on := 21, ground := Go.Ground.data }], guard := none }) (v := ?_) rfl (by kernel_rfl) (by kernel_rfl) (by kernel_rfl) (fun _ _ _ h => h) (Or.inl ⟨by rfl, ?_⟩) (by assumption) ?_
              rotate_left
              · intro wq hSw; (try dsimp only at hSw); go_simp; (try with_reducible rfl)
              try simp only [Act.put, List.setIfInBounds_toArray, List.set_cons_zero, List.set_cons_succ]
              refine wpAnyH_done (by kernel_rfl) ?_ _
              refine noOut_normal ?_
              have hoI2 : OnlyL [ib] wq (w2.setCell ⟨ib, 0, none⟩ (.int .i64 ((pre.length : Int) + 1))) := OnlyL.setCell hoI (.inl (List.mem_singleton.2 rfl)) _
              have HLI : Hid (LiI r ib w7 (pre ++ [x]) (w2.setCell ⟨ib, 0, none⟩ (.int .i64 ((pre.length : Int) + 1)))) := by
                refine ⟨?_, HI2.out.trans (OnlyL.below hoI2 (by omega) (fun k hk => by rw [List.mem_singleton.1 hk]; exact Nat.le_refl _)), ?_⟩
                · rw [show ((pre ++ [x]).length : Int) = (pre.length : Int) + 1 by simp]
                  exact setBox IB9.out _
                · rw [List.length_append, List.length_singleton, HXP.out, take_snoc HP.out, ← HI3.out]
              have HKF := Lib.hid (OnlyL.from hoI2 w7.heap.size HCI.out)
              have HKB := Lib.hid (OnlyL.below hoI2 (m := ib) (by omega) (fun k hk => by rw [List.mem_singleton.1 hk]; exact Nat.le_refl _))
              have cI9 := cellH IB9
              have fI9 := frozH IB9
              have cB9 := cellH RB9
              have cS9 := cellH St9
              have n1 : ib ≠ rb9 := by omega
              have n2 : ib ≠ w.heap.size := by omega
              have kw : IntKind.i64.wrap ((pre.length : Int) + 1) = (pre.length : Int) + 1 := by rw [IntKind.wrap_i64]; omega
              clear RB9 St9 IB9 R9 hH1 xI xP xB0 xB1 j0 j1 j2
              gi_wp2_with fail
              exact ⟨HKF.out, HKB.out, HLI.out⟩
            · have e3 : (x.v != p.v) = true := by simp [hxv]
              have HXP : Hid (¬ x = p) := fun h => hxv (by rw [h])
              clear hxf hxt hxv
              refine round_held_drew (S := fun w' => w'.cell? ⟨ib, 0, none⟩ = some (.int .i64 pre.length) ∧ w'.cell? ⟨w4.heap.size, 0, none⟩ = some (.slice (some ⟨g, off, none⟩) r.length c5) ∧ w'.cell? ⟨Bp, 0, none⟩ = some (.int .i64 x.f) ∧ w'.cell? ⟨Bp, 1, none⟩ = some (.int .i64 x.t) ∧ w'.cell? ⟨g, off + pre.length * 3, none⟩ = some (.int .i64 p.f) ∧ w'.cell? ⟨g, off + pre.length * 3 + 1, none⟩ = some (.int .i64 p.t) ∧ w'.cell? ⟨g, off + pre.length * 3 + 2, none⟩ = some (.int .i64 p.v)) (by kernel_rfl) (by kernel_rfl) ?_ (fun hH0 => ?_)
              · exact ⟨xI, xP, xB0, xB1, j0, j1, j2⟩
              refine wpAnyH_take (i := 0) (oi := { dst := some 44, op := Go.Op.load 3 (Go.Operand.tmp 11), type := 3, pos := "law.go:284", after := #[], guard := none }) (v := ?_) rfl (by kernel_rfl) (by kernel_rfl) (by kernel_rfl) (fun _ _ _ h => h) (Or.inl ⟨by rfl, ?_⟩) (by assumption) ?_
              rotate_left
              · intro wq hSw; (try dsimp only at hSw); go_simp; (try with_reducible rfl)
              try simp only [Act.put, List.setIfInBounds_toArray, List.set_cons_zero, List.set_cons_succ]
              refine wpAnyH_take (i := 1) (oi := { dst := some 45, op := Go.Op.load 59 (Go.Operand.tmp 8), type := 59, pos := "law.go:284", after := #[], guard := none }) (v := ?_) rfl (by kernel_rfl) (by kernel_rfl) (by kernel_rfl) (fun _ _ _ h => h) (Or.inl ⟨by rfl, ?_⟩) (by assumption) ?_
              rotate_left
              · intro wq hSw; (try dsimp only at hSw); go_simp; (try with_reducible rfl)
              try simp only [Act.put, List.setIfInBounds_toArray, List.set_cons_zero, List.set_cons_succ]
              refine wpAnyH_take (i := 2) (oi := { dst := some 46, op := Go.Op.call { callee := Go.Callee.builtin Go.Builtin.len, args := #[Go.Operand.tmp 45], argTypes := #[59] }, type := 3, pos := "law.go:284", after := #[{ on := 1, ground := Go.Ground.data }], guard := none }) (v := ?_) rfl (by kernel_rfl) (by kernel_rfl) (by kernel_rfl) (fun _ _ _ h => h) (Or.inl ⟨by rfl, ?_⟩) (by assumption) ?_
              rotate_left
              · intro wq hSw; (try dsimp only at hSw); go_simp; (try with_reducible rfl)
              try simp only [Act.put, List.setIfInBounds_toArray, List.set_cons_zero, List.set_cons_succ]
              refine wpAnyH_take (i := 3) (oi := { dst := some 47, op := Go.Op.binOp Go.BinOp.geq 3 (Go.Operand.tmp 44) (Go.Operand.tmp 46) 3, type := 4, pos := "law.go:284", after := #[{ on := 0, ground := Go.Ground.data }, { on := 2, ground := Go.Ground.data }], guard := none }) (v := ?_) rfl (by kernel_rfl) (by kernel_rfl) (by kernel_rfl) (fun _ _ _ h => h) (Or.inl ⟨by rfl, ?_⟩) (by assumption) ?_
              rotate_left
              · intro wq hSw; (try dsimp only at hSw); go_simp; (try with_reducible rfl)
              try simp only [Act.put, List.setIfInBounds_toArray, List.set_cons_zero, List.set_cons_succ]
              refine wpAnyH_take (i := 4) (oi := { dst := some 48, op := Go.Op.move (Go.Operand.tmp 47), type := 4, pos := "law.go:284", after := #[{ on := 3, ground := Go.Ground.data }], guard := none }) (v := ?_) rfl (by kernel_rfl) (by kernel_rfl) (by kernel_rfl) (fun _ _ _ h => h) (Or.inl ⟨by rfl, ?_⟩) (by assumption) ?_
              rotate_left
              · intro wq hSw; (try dsimp only at hSw); go_simp; (try with_reducible rfl)
              try simp only [Act.put, List.setIfInBounds_toArray, List.set_cons_zero, List.set_cons_succ]
              refine wpAnyH_take (i := 5) (oi := { dst := some 49, op := Go.Op.load 70 (Go.Operand.tmp 12), type := 70, pos := "law.go:284", after := #[{ on := 4, ground := Go.Ground.guard }], guard := some (4, false) }) (v := ?_) rfl (by kernel_rfl) (by kernel_rfl) (by kernel_rfl) (fun _ _ _ h => h) (Or.inl ⟨by rfl, ?_⟩) (by assumption) ?_
              rotate_left
              · intro wq hSw; (try dsimp only at hSw); go_simp; (try with_reducible rfl)
              try simp only [Act.put, List.setIfInBounds_toArray, List.set_cons_zero, List.set_cons_succ]
              refine wpAnyH_take (i := 6) (oi := { dst := some 50, op := Go.Op.load 59 (Go.Operand.tmp 8), type := 59, pos := "law.go:284", after := #[{ on := 4, ground := Go.Ground.guard }], guard := some (4, false) }) (v := ?_) rfl (by kernel_rfl) (by kernel_rfl) (by kernel_rfl) (fun _ _ _ h => h) (Or.inl ⟨by rfl, ?_⟩) (by assumption) ?_
              rotate_left
              · intro wq hSw; (try dsimp only at hSw); go_simp; (try with_reducible rfl)
              try simp only [Act.put, List.setIfInBounds_toArray, List.set_cons_zero, List.set_cons_succ]
              refine wpAnyH_take (i := 7) (oi := { dst := some 51, op := Go.Op.load 3 (Go.Operand.tmp 11), type := 3, pos := "law.go:284", after := #[{ on := 4, ground := Go.Ground.guard }], guard := some (4, false) }) (v := ?_) rfl (by kernel_rfl) (by kernel_rfl) (by kernel_rfl) (fun _ _ _ h => h) (Or.inl ⟨by rfl, ?_⟩) (by assumption) ?_
              rotate_left
              · intro wq hSw; (try dsimp only at hSw); go_simp; (try with_reducible rfl)
              try simp only [Act.put, List.setIfInBounds_toArray, List.set_cons_zero, List.set_cons_succ]
              refine wpAnyH_take (i := 8) (oi := { dst := some 52, op := Go.Op.indexAddr 59 (Go.Operand.tmp 50) (Go.Operand.tmp 51), type := 0, pos := "law.go:284", after := #[{ on := 6, ground := Go.Ground.data }, { on := 7, ground := Go.Ground.data }, { on := 4, ground := Go.Ground.guard }], guard := some (4, false) }) (v := ?_) rfl (by kernel_rfl) (by kernel_rfl) (by kernel_rfl) (fun _ _ _ h => h) (Or.inl ⟨by rfl, ?_⟩) (by assumption) ?_
              rotate_left
              · intro wq hSw; (try dsimp only at hSw); go_simp; (try with_reducible rfl)
              try simp only [Act.put, List.setIfInBounds_toArray, List.set_cons_zero, List.set_cons_succ]
              refine wpAnyH_take (i := 9) (oi := { dst := some 53, op := Go.Op.fieldAddr 73 (Go.Operand.tmp 52) 0, type := 0, pos := "law.go:284", after := #[{ on := 8, ground := Go.Ground.data }, { on := 4, ground := Go.Ground.guard }], guard := some (4, false) }) (v := ?_) rfl (by kernel_rfl) (by kernel_rfl) (by kernel_rfl) (fun _ _ _ h => h) (Or.inl ⟨by rfl, ?_⟩) (by assumption) ?_
              rotate_left
              · intro wq hSw; (try dsimp only at hSw); go_simp; (try with_reducible rfl)
              try simp only [Act.put, List.setIfInBounds_toArray, List.set_cons_zero, List.set_cons_succ]
              refine wpAnyH_take (i := 10) (oi := { dst := some 54, op := Go.Op.load 70 (Go.Operand.tmp 53), type := 70, pos := "law.go:284", after := #[{ on := 9, ground := Go.Ground.data }, { on := 4, ground := Go.Ground.guard }], guard := some (4, false) }) (v := ?_) rfl (by kernel_rfl) (by kernel_rfl) (by kernel_rfl) (fun _ _ _ h => h) (Or.inl ⟨by rfl, ?_⟩) (by assumption) ?_
              rotate_left
              · intro wq hSw; (try dsimp only at hSw); go_simp; (try with_reducible rfl)
              try simp only [Act.put, List.setIfInBounds_toArray, List.set_cons_zero, List.set_cons_succ]
              refine wpAnyH_ready (rs := [11]) (by kernel_rfl) (by simp) ?_
              refine AllReadyH.cons (o := { dst := some 55, op := Go.Op.call { callee := Go.Callee.value (Go.Operand.func 38), args := #[Go.Operand.tmp 49, Go.Operand.tmp 54], argTypes := #[70, 70] }, type := 4, pos := "law.go:284", after := #[{ on := 5, ground := Go.Ground.data }, { on := 10, ground := Go.Ground.data }, { on := 4, ground := Go.Ground.chain }, { on := 4, ground := Go.Ground.guard }], guard := some (4, false) }) rfl (fun K hK => ?_) ?_
              rotate_left
              · exact AllReadyH.nil
              go_simp
              refine (sameSpan_any _ _ _ _ _ true (e0)).mono ?_
              rintro e w2 ⟨rfl, hb2⟩
              have hoI : OnlyL [ib] wq w2 := OnlyL.step (by (repeat' (first | with_reducible exact OnlyL.refl _ _ | with_reducible assumption | with_reducible refine OnlyL.drew ?_ | with_reducible refine OnlyL.drewN ?_ _ | with_reducible refine OnlyL.setCell ?_ ?_ _ | with_reducible refine OnlyL.alloc ?_ _ | omega | (simp; done) | (simp; omega)))) hb2
              have hoW : OnlyL [w.heap.size + 1] wq w2 := OnlyL.step (by (repeat' (first | with_reducible exact OnlyL.refl _ _ | with_reducible assumption | with_reducible refine OnlyL.drew ?_ | with_reducible refine OnlyL.drewN ?_ _ | with_reducible refine OnlyL.setCell ?_ ?_ _ | with_reducible refine OnlyL.alloc ?_ _ | omega | (simp; done) | (simp; omega)))) hb2
              replace xI : w2.cell? ⟨ib, 0, none⟩ = some (.int .i64 pre.length) := cellOf hb2 (cell_drew xI)
              replace xP : w2.cell? ⟨w4.heap.size, 0, none⟩ = some (.slice (some ⟨g, off, none⟩) r.length c5) := cellOf hb2 (cell_drew xP)
              replace xB0 : w2.cell? ⟨Bp, 0, none⟩ = some (.int .i64 x.f) := cellOf hb2 (cell_drew xB0)
              replace xB1 : w2.cell? ⟨Bp, 1, none⟩ = some (.int .i64 x.t) := cellOf hb2 (cell_drew xB1)
              replace j0 : w2.cell? ⟨g, off + pre.length * 3, none⟩ = some (.int .i64 p.f) := cellOf hb2 (cell_drew j0)
              replace j1 : w2.cell? ⟨g, off + pre.length * 3 + 1, none⟩ = some (.int .i64 p.t) := cellOf hb2 (cell_drew j1)
              replace j2 : w2.cell? ⟨g, off + pre.length * 3 + 2, none⟩ = some (.int .i64 p.v) := cellOf hb2 (cell_drew j2)
              have RB9 := keepH hb2 (drew_old RB8.out)
              have St9 := keepH hb2 (drew_old St8.out)
              have R9 := keepH hb2 (drew_old R8.out)
              have IB9 := keepH hb2 (drew_old IB8.out)
              go_wp2_with fail
              refine hK.out _ _ ?_ (fun hH1 => ?_)
              · (try dsimp only); exact ⟨xI, xP, xB0, xB1, j0, j1, j2⟩
              clear hK K
              clear hH0
              try simp only [Act.put, List.setIfInBounds_toArray, List.set_cons_zero, List.set_cons_succ]
              refine wpAnyH_take (i := 12) (oi := { dst := some 56, op := Go.Op.unOp Go.UnOp.not 4 (Go.Operand.tmp 55), type := 4, pos := "law.go:284", after := #[{ on := 11, ground := Go.Ground.data }, { on := 4, ground := Go.Ground.guard }], guard := some (4, false) }) (v := ?_) rfl (by kernel_rfl) (by kernel_rfl) (by kernel_rfl) (fun _ _ _ h => h) (Or.inl ⟨by rfl, ?_⟩) (by assumption) ?_
              rotate_left
              · intro wq hSw; (try dsimp only at hSw); go_simp; (try with_reducible rfl)
              try simp only [Act.put, List.setIfInBounds_toArray, List.set_cons_zero, List.set_cons_succ]
              refine wpAnyH_take (i := 13) (oi := { dst := some 57, op := Go.Op.pick (Go.Operand.tmp 48) (Go.Operand.const (Go.Value.bool true)) (Go.Operand.tmp 56), type := 4, pos := "law.go:284", after := #[{ on := 4, ground := Go.Ground.data }, { on := 12, ground := Go.Ground.data }], guard := none }) (v := ?_) rfl (by kernel_rfl) (by kernel_rfl) (by kernel_rfl) (fun _ _ _ h => h) (Or.inl ⟨by rfl, ?_⟩) (by assumption) ?_
              rotate_left
              · intro wq hSw; (try dsimp only at hSw); go_simp; (try with_reducible rfl)
              try simp only [Act.put, List.setIfInBounds_toArray, List.set_cons_zero, List.set_cons_succ]
              refine wpAnyH_take (i := 14) (oi := { dst := some 58, op := Go.Op.move (Go.Operand.tmp 57), type := 4, pos := "law.go:284", after := #[{ on := 13, ground := Go.Ground.data }, { on := 11, ground := Go.Ground.chain }], guard := none }) (v := ?_) rfl (by kernel_rfl) (by kernel_rfl) (by kernel_rfl) (fun _ _ _ h => h) (Or.inl ⟨by rfl, ?_⟩) (by assumption) ?_
              rotate_left
              · intro wq hSw; (try dsimp only at hSw); go_simp; (try with_reducible rfl)
              try simp only [Act.put, List.setIfInBounds_toArray, List.set_cons_zero, List.set_cons_succ]
              refine wpAnyH_take (i := 15) (oi := { dst := some 59, op := Go.Op.move (Go.Operand.tmp 13), type := 3, pos := "law.go:284", after := #[{ on := 14, ground := Go.Ground.guard }], guard := some (14, false) }) (v := ?_) rfl (by kernel_rfl) (by kernel_rfl) (by kernel_rfl) (fun _ _ _ h => h) (Or.inl ⟨by rfl, ?_⟩) (by assumption) ?_
              rotate_left
              · intro wq hSw; (try dsimp only at hSw); go_simp; (try with_reducible rfl)
              try simp only [Act.put, List.setIfInBounds_toArray, List.set_cons_zero, List.set_cons_succ]
              refine wpAnyH_take (i := 16) (oi := { dst := some 60, op := Go.Op.load 59 (Go.Operand.tmp 8), type := 59, pos := "law.go:284", after := #[{ on := 14, ground := Go.Ground.guard }], guard := some (14, false) }) (v := ?_) rfl (by kernel_rfl) (by kernel_rfl) (by kernel_rfl) (fun _ _ _ h => h) (Or.inl ⟨by rfl, ?_⟩) (by assumption) ?_
              rotate_left
              · intro wq hSw; (try dsimp only at hSw); go_simp; (try with_reducible rfl)
              try simp only [Act.put, List.setIfInBounds_toArray, List.set_cons_zero, List.set_cons_succ]
              refine wpAnyH_take (i := 17) (oi := { dst := some 61, op := Go.Op.load 3 (Go.Operand.tmp 11), type := 3, pos := "law.go:284", after := #[{ on := 14, ground := Go.Ground.guard }], guard := some (14, false) }) (v := ?_) rfl (by kernel_rfl) (by kernel_rfl) (by kernel_rfl) (fun _ _ _ h => h) (Or.inl ⟨by rfl, ?_⟩) (by assumption) ?_
              rotate_left
              · intro wq hSw; (try dsimp only at hSw); go_simp; (try with_reducible rfl)
              try simp only [Act.put, List.setIfInBounds_toArray, List.set_cons_zero, List.set_cons_succ]
              refine wpAnyH_take (i := 18) (oi := { dst := some 62, op := Go.Op.indexAddr 59 (Go.Operand.tmp 60) (Go.Operand.tmp 61), type := 0, pos := "law.go:284", after := #[{ on := 16, ground := Go.Ground.data }, { on := 17, ground := Go.Ground.data }, { on := 14, ground := Go.Ground.guard }], guard := some (14, false) }) (v := ?_) rfl (by kernel_rfl) (by kernel_rfl) (by kernel_rfl) (fun _ _ _ h => h) (Or.inl ⟨by rfl, ?_⟩) (by assumption) ?_
              rotate_left
              · intro wq hSw; (try dsimp only at hSw); go_simp; (try with_reducible rfl)
              try simp only [Act.put, List.setIfInBounds_toArray, List.set_cons_zero, List.set_cons_succ]
              refine wpAnyH_take (i := 19) (oi := { dst := some 63, op := Go.Op.fieldAddr 73 (Go.Operand.tmp 62) 1, type := 0, pos := "law.go:284", after := #[{ on := 18, ground := Go.Ground.data }, { on := 14, ground := Go.Ground.guard }], guard := some (14, false) }) (v := ?_) rfl (by kernel_rfl) (by kernel_rfl) (by kernel_rfl) (fun _ _ _ h => h) (Or.inl ⟨by rfl, ?_⟩) (by assumption) ?_
              rotate_left
              · intro wq hSw; (try dsimp only at hSw); go_simp; (try with_reducible rfl)
              try simp only [Act.put, List.setIfInBounds_toArray, List.set_cons_zero, List.set_cons_succ]
              refine wpAnyH_take (i := 20) (oi := { dst := some 64, op := Go.Op.load 3 (Go.Operand.tmp 63), type := 3, pos := "law.go:284", after := #[{ on := 19, ground := Go.Ground.data }, { on := 14, ground := Go.Ground.guard }], guard := some (14, false) }) (v := ?_) rfl (by kernel_rfl) (by kernel_rfl) (by kernel_rfl) (fun _ _ _ h => h) (Or.inl ⟨by rfl, ?_⟩) (by assumption) ?_
              rotate_left
              · intro wq hSw; (try dsimp only at hSw); go_simp; (try with_reducible rfl)
              try simp only [Act.put, List.setIfInBounds_toArray, List.set_cons_zero, List.set_cons_succ]
              refine wpAnyH_take (i := 21) (oi := { dst := some 65, op := Go.Op.binOp Go.BinOp.neq 3 (Go.Operand.tmp 59) (Go.Operand.tmp 64) 3, type := 4, pos := "law.go:284", after := #[{ on := 15, ground := Go.Ground.data }, { on := 20, ground := Go.Ground.data }, { on := 14, ground := Go.Ground.guard }], guard := some (14, false) }) (v := ?_) rfl (by kernel_rfl) (by kernel_rfl) (by kernel_rfl) (fun _ _ _ h => h) (Or.inl ⟨by rfl, ?_⟩) (by assumption) ?_
              rotate_left
              · intro wq hSw; (try dsimp only at hSw); go_simp; (try with_reducible rfl)
              try simp only [Act.put, List.setIfInBounds_toArray, List.set_cons_zero, List.set_cons_succ]
              refine wpAnyH_take (i := 22) (oi := { dst := some 66, op := Go.Op.pick (Go.Operand.tmp 58) (Go.Operand.const (Go.Value.bool true)) (Go.Operand.tmp 65), type := 4, pos := "law.go:284", after := #[{ on := 14, ground := Go.Ground.data }, { on := 21, ground := Go.Ground.data }], guard := none }) (v := ?_) rfl (by kernel_rfl) (by kernel_rfl) (by kernel_rfl) (fun _ _ _ h => h) (Or.inl ⟨by rfl, ?_⟩) (by assumption) ?_
              rotate_left
              · intro wq hSw; (try dsimp only at hSw); go_simp; (try with_reducible rfl)
              try simp only [Act.put, List.setIfInBounds_toArray, List.set_cons_zero, List.set_cons_succ]
              refine wpAnyH_done (by kernel_rfl) ?_ _
              refine noOut_normal ?_
              have cR9 := cellH R9
              have fzR9 := frozH R9
              clear RB9 St9 IB9 hH1 xI xP xB0 xB1 j0 j1 j2
              gi_wp2_with fail
              exact ⟨OnlyL.from (L := [w.heap.size + 1]) (OnlyL.setCell hoW (.inl (List.mem_singleton.2 rfl)) _) _ HCL.out, .inl (fun h => HXP.out (prefix_at h HP.out))⟩
          · have e0 : (x.f == p.f && x.t == p.t) = false := by
              rw [Bool.and_eq_false_imp]
              intro h
              rw [beq_eq_false_iff_ne]
              exact fun h2 => hx1 ⟨by simpa using h, h2⟩
            have HXP : Hid (¬ x = p) := fun h => hx1 ⟨by rw [h], by rw [h]⟩
            clear hx1
            refine round_held_drew (S := fun w' => w'.cell? ⟨ib, 0, none⟩ = some (.int .i64 pre.length) ∧ w'.cell? ⟨w4.heap.size, 0, none⟩ = some (.slice (some ⟨g, off, none⟩) r.length c5) ∧ w'.cell? ⟨Bp, 0, none⟩ = some (.int .i64 x.f) ∧ w'.cell? ⟨Bp, 1, none⟩ = some (.int .i64 x.t) ∧ w'.cell? ⟨g, off + pre.length * 3, none⟩ = some (.int .i64 p.f) ∧ w'.cell? ⟨g, off + pre.length * 3 + 1, none⟩ = some (.int .i64 p.t) ∧ w'.cell? ⟨g, off + pre.length * 3 + 2, none⟩ = some (.int .i64 p.v)) (by kernel_rfl) (by kernel_rfl) ?_ (fun hH0 => ?_)
            · exact ⟨xI, xP, xB0, xB1, j0, j1, j2⟩
            refine wpAnyH_take (i := 0) (oi := { dst := some 44, op := Go.Op.load 3 (Go.Operand.tmp 11), type := 3, pos := "law.go:284", after := #[], guard := none }) (v := ?_) rfl (by kernel_rfl) (by kernel_rfl) (by kernel_rfl) (fun _ _ _ h => h) (Or.inl ⟨by rfl, ?_⟩) (by assumption) ?_
            rotate_left
            · intro wq hSw; (try dsimp only at hSw); go_simp; (try with_reducible rfl)
            try simp only [Act.put, List.setIfInBounds_toArray, List.set_cons_zero, List.set_cons_succ]
            refine wpAnyH_take (i := 1) (oi := { dst := some 45, op := Go.Op.load 59 (Go.Operand.tmp 8), type := 59, pos := "law.go:284", after := #[], guard := none }) (v := ?_) rfl (by kernel_rfl) (by kernel_rfl) (by kernel_rfl) (fun _ _ _ h => h) (Or.inl ⟨by rfl, ?_⟩) (by assumption) ?_
            rotate_left
            · intro wq hSw; (try dsimp only at hSw); go_simp; (try with_reducible rfl)
            try simp only [Act.put, List.setIfInBounds_toArray, List.set_cons_zero, List.set_cons_succ]
            refine wpAnyH_take (i := 2) (oi := { dst := some 46, op := Go.Op.call { callee := Go.Callee.builtin Go.Builtin.len, args := #[Go.Operand.tmp 45], argTypes := #[59] }, type := 3, pos := "law.go:284", after := #[{ on := 1, ground := Go.Ground.data }], guard := none }) (v := ?_) rfl (by kernel_rfl) (by kernel_rfl) (by kernel_rfl) (fun _ _ _ h => h) (Or.inl ⟨by rfl, ?_⟩) (by assumption) ?_
            rotate_left
            · intro wq hSw; (try dsimp only at hSw); go_simp; (try with_reducible rfl)
            try simp only [Act.put, List.setIfInBounds_toArray, List.set_cons_zero, List.set_cons_succ]
            refine wpAnyH_take (i := 3) (oi := { dst := some 47, op := Go.Op.binOp Go.BinOp.geq 3 (Go.Operand.tmp 44) (Go.Operand.tmp 46) 3, type := 4, pos := "law.go:284", after := #[{ on := 0, ground := Go.Ground.data }, { on := 2, ground := Go.Ground.data }], guard := none }) (v := ?_) rfl (by kernel_rfl) (by kernel_rfl) (by kernel_rfl) (fun _ _ _ h => h) (Or.inl ⟨by rfl, ?_⟩) (by assumption) ?_
            rotate_left
            · intro wq hSw; (try dsimp only at hSw); go_simp; (try with_reducible rfl)
            try simp only [Act.put, List.setIfInBounds_toArray, List.set_cons_zero, List.set_cons_succ]
            refine wpAnyH_take (i := 4) (oi := { dst := some 48, op := Go.Op.move (Go.Operand.tmp 47), type := 4, pos := "law.go:284", after := #[{ on := 3, ground := Go.Ground.data }], guard := none }) (v := ?_) rfl (by kernel_rfl) (by kernel_rfl) (by kernel_rfl) (fun _ _ _ h => h) (Or.inl ⟨by rfl, ?_⟩) (by assumption) ?_
            rotate_left
            · intro wq hSw; (try dsimp only at hSw); go_simp; (try with_reducible rfl)
            try simp only [Act.put, List.setIfInBounds_toArray, List.set_cons_zero, List.set_cons_succ]
            refine wpAnyH_take (i := 5) (oi := { dst := some 49, op := Go.Op.load 70 (Go.Operand.tmp 12), type := 70, pos := "law.go:284", after := #[{ on := 4, ground := Go.Ground.guard }], guard := some (4, false) }) (v := ?_) rfl (by kernel_rfl) (by kernel_rfl) (by kernel_rfl) (fun _ _ _ h => h) (Or.inl ⟨by rfl, ?_⟩) (by assumption) ?_
            rotate_left
            · intro wq hSw; (try dsimp only at hSw); go_simp; (try with_reducible rfl)
            try simp only [Act.put, List.setIfInBounds_toArray, List.set_cons_zero, List.set_cons_succ]
            refine wpAnyH_take (i := 6) (oi := { dst := some 50, op := Go.Op.load 59 (Go.Operand.tmp 8), type := 59, pos := "law.go:284", after := #[{ on := 4, ground := Go.Ground.guard }], guard := some (4, false) }) (v := ?_) rfl (by kernel_rfl) (by kernel_rfl) (by kernel_rfl) (fun _ _ _ h => h) (Or.inl ⟨by rfl, ?_⟩) (by assumption) ?_
            rotate_left
            · intro wq hSw; (try dsimp only at hSw); go_simp; (try with_reducible rfl)
            try simp only [Act.put, List.setIfInBounds_toArray, List.set_cons_zero, List.set_cons_succ]
            refine wpAnyH_take (i := 7) (oi := { dst := some 51, op := Go.Op.load 3 (Go.Operand.tmp 11), type := 3, pos := "law.go:284", after := #[{ on := 4, ground := Go.Ground.guard }], guard := some (4, false) }) (v := ?_) rfl (by kernel_rfl) (by kernel_rfl) (by kernel_rfl) (fun _ _ _ h => h) (Or.inl ⟨by rfl, ?_⟩) (by assumption) ?_
            rotate_left
            · intro wq hSw; (try dsimp only at hSw); go_simp; (try with_reducible rfl)
            try simp only [Act.put, List.setIfInBounds_toArray, List.set_cons_zero, List.set_cons_succ]
            refine wpAnyH_take (i := 8) (oi := { dst := some 52, op := Go.Op.indexAddr 59 (Go.Operand.tmp 50) (Go.Operand.tmp 51), type := 0, pos := "law.go:284", after := #[{ on := 6, ground := Go.Ground.data }, { on := 7, ground := Go.Ground.data }, { on := 4, ground := Go.Ground.guard }], guard := some (4, false) }) (v := ?_) rfl (by kernel_rfl) (by kernel_rfl) (by kernel_rfl) (fun _ _ _ h => h) (Or.inl ⟨by rfl, ?_⟩) (by assumption) ?_
            rotate_left
            · intro wq hSw; (try dsimp only at hSw); go_simp; (try with_reducible rfl)
            try simp only [Act.put, List.setIfInBounds_toArray, List.set_cons_zero, List.set_cons_succ]
            refine wpAnyH_take (i := 9) (oi := { dst := some 53, op := Go.Op.fieldAddr 73 (Go.Operand.tmp 52) 0, type := 0, pos := "law.go:284", after := #[{ on := 8, ground := Go.Ground.data }, { on := 4, ground := Go.Ground.guard }], guard := some (4, false) }) (v := ?_) rfl (by kernel_rfl) (by kernel_rfl) (by kernel_rfl) (fun _ _ _ h => h) (Or.inl ⟨by rfl, ?_⟩) (by assumption) ?_
            rotate_left
            · intro wq hSw; (try dsimp only at hSw); go_simp; (try with_reducible rfl)
            try simp only [Act.put, List.setIfInBounds_toArray, List.set_cons_zero, List.set_cons_succ]
            refine wpAnyH_take (i := 10) (oi := { dst := some 54, op := Go.Op.load 70 (Go.Operand.tmp 53), type := 70, pos := "law.go:284", after := #[{ on := 9, ground := Go.Ground.data }, { on := 4, ground := Go.Ground.guard }], guard := some (4, false) }) (v := ?_) rfl (by kernel_rfl) (by kernel_rfl) (by kernel_rfl) (fun _ _ _ h => h) (Or.inl ⟨by rfl, ?_⟩) (by assumption) ?_
            rotate_left
            · intro wq hSw; (try dsimp only at hSw); go_simp; (try with_reducible rfl)
            try simp only [Act.put, List.setIfInBounds_toArray, List.set_cons_zero, List.set_cons_succ]
            refine wpAnyH_ready (rs := [11]) (by kernel_rfl) (by simp) ?_
            refine AllReadyH.cons (o := { dst := some 55, op := Go.Op.call { callee := Go.Callee.value (Go.Operand.func 38), args := #[Go.Operand.tmp 49, Go.Operand.tmp 54], argTypes := #[70, 70] }, type := 4, pos := "law.go:284", after := #[{ on := 5, ground := Go.Ground.data }, { on := 10, ground := Go.Ground.data }, { on := 4, ground := Go.Ground.chain }, { on := 4, ground := Go.Ground.guard }], guard := some (4, false) }) rfl (fun K hK => ?_) ?_
            rotate_left
            · exact AllReadyH.nil
            go_simp
            refine (sameSpan_any _ _ _ _ _ false (e0)).mono ?_
            rintro e w2 ⟨rfl, hb2⟩
            have hoI : OnlyL [ib] wq w2 := OnlyL.step (by (repeat' (first | with_reducible exact OnlyL.refl _ _ | with_reducible assumption | with_reducible refine OnlyL.drew ?_ | with_reducible refine OnlyL.drewN ?_ _ | with_reducible refine OnlyL.setCell ?_ ?_ _ | with_reducible refine OnlyL.alloc ?_ _ | omega | (simp; done) | (simp; omega)))) hb2
            have hoW : OnlyL [w.heap.size + 1] wq w2 := OnlyL.step (by (repeat' (first | with_reducible exact OnlyL.refl _ _ | with_reducible assumption | with_reducible refine OnlyL.drew ?_ | with_reducible refine OnlyL.drewN ?_ _ | with_reducible refine OnlyL.setCell ?_ ?_ _ | with_reducible refine OnlyL.alloc ?_ _ | omega | (simp; done) | (simp; omega)))) hb2
            replace xI : w2.cell? ⟨ib, 0, none⟩ = some (.int .i64 pre.length) := cellOf hb2 (cell_drew xI)
            replace xP : w2.cell? ⟨w4.heap.size, 0, none⟩ = some (.slice (some ⟨g, off, none⟩) r.length c5) := cellOf hb2 (cell_drew xP)
            replace xB0 : w2.cell? ⟨Bp, 0, none⟩ = some (.int .i64 x.f) := cellOf hb2 (cell_drew xB0)
            replace xB1 : w2.cell? ⟨Bp, 1, none⟩ = some (.int .i64 x.t) := cellOf hb2 (cell_drew xB1)
            replace j0 : w2.cell? ⟨g, off + pre.length * 3, none⟩ = some (.int .i64 p.f) := cellOf hb2 (cell_drew j0)
            replace j1 : w2.cell? ⟨g, off + pre.length * 3 + 1, none⟩ = some (.int .i64 p.t) := cellOf hb2 (cell_drew j1)
            replace j2 : w2.cell? ⟨g, off + pre.length * 3 + 2, none⟩ = some (.int .i64 p.v) := cellOf hb2 (cell_drew j2)
            have RB9 := keepH hb2 (drew_old RB8.out)
            have St9 := keepH hb2 (drew_old St8.out)
            have R9 := keepH hb2 (drew_old R8.out)
            have IB9 := keepH hb2 (drew_old IB8.out)
            go_wp2_with fail
            refine hK.out _ _ ?_ (fun hH1 => ?_)
            · (try dsimp only); exact ⟨xI, xP, xB0, xB1, j0, j1, j2⟩
            clear hK K
            clear hH0
            try simp only [Act.put, List.setIfInBounds_toArray, List.set_cons_zero, List.set_cons_succ]
            refine wpAnyH_take (i := 12) (oi := { dst := some 56, op := Go.Op.unOp Go.UnOp.not 4 (Go.Operand.tmp 55), type := 4, pos := "law.go:284", after := #[{ on := 11, ground := Go.Ground.data }, { on := 4, ground := Go.Ground.guard }], guard := some (4, false) }) (v := ?_) rfl (by kernel_rfl) (by kernel_rfl) (by kernel_rfl) (fun _ _ _ h => h) (Or.inl ⟨by rfl, ?_⟩) (by assumption) ?_
            rotate_left
            · intro wq hSw; (try dsimp only at hSw); go_simp; (try with_reducible rfl)
            try simp only [Act.put, List.setIfInBounds_toArray, List.set_cons_zero, List.set_cons_succ]
            refine wpAnyH_take (i := 13) (oi := { dst := some 57, op := Go.Op.pick (Go.Operand.tmp 48) (Go.Operand.const (Go.Value.bool true)) (Go.Operand.tmp 56), type := 4, pos := "law.go:284", after := #[{ on := 4, ground := Go.Ground.data }, { on := 12, ground := Go.Ground.data }], guard := none }) (v := ?_) rfl (by kernel_rfl) (by kernel_rfl) (by kernel_rfl) (fun _ _ _ h => h) (Or.inl ⟨by rfl, ?_⟩) (by assumption) ?_
            rotate_left
            · intro wq hSw; (try dsimp only at hSw); go_simp; (try with_reducible rfl)
            try simp only [Act.put, List.setIfInBounds_toArray, List.set_cons_zero, List.set_cons_succ]
            refine wpAnyH_take (i := 14) (oi := { dst := some 58, op := Go.Op.move (Go.Operand.tmp 57), type := 4, pos := "law.go:284", after := #[{ on := 13, ground := Go.Ground.data }, { on := 11, ground := Go.Ground.chain }], guard := none }) (v := ?_) rfl (by kernel_rfl) (by kernel_rfl) (by kernel_rfl) (fun _ _ _ h => h) (Or.inl ⟨by rfl, ?_⟩) (by assumption) ?_
            rotate_left
            · intro wq hSw; (try dsimp only at hSw); go_simp; (try with_reducible rfl)
            try simp only [Act.put, List.setIfInBounds_toArray, List.set_cons_zero, List.set_cons_succ]
            refine wpAnyH_take (i := 15) (oi := { dst := some 59, op := Go.Op.move (Go.Operand.tmp 13), type := 3, pos := "law.go:284", after := #[{ on := 14, ground := Go.Ground.guard }], guard := some (14, false) }) (v := undef) rfl (by kernel_rfl) (by kernel_rfl) (by kernel_rfl) (fun _ _ _ h => h) (Or.inr ⟨by rfl, rfl⟩) (by assumption) ?_
            try simp only [Act.put, List.setIfInBounds_toArray, List.set_cons_zero, List.set_cons_succ]
            refine wpAnyH_take (i := 16) (oi := { dst := some 60, op := Go.Op.load 59 (Go.Operand.tmp 8), type := 59, pos := "law.go:284", after := #[{ on := 14, ground := Go.Ground.guard }], guard := some (14, false) }) (v := undef) rfl (by kernel_rfl) (by kernel_rfl) (by kernel_rfl) (fun _ _ _ h => h) (Or.inr ⟨by rfl, rfl⟩) (by assumption) ?_
            try simp only [Act.put, List.setIfInBounds_toArray, List.set_cons_zero, List.set_cons_succ]
            refine wpAnyH_take (i := 17) (oi := { dst := some 61, op := Go.Op.load 3 (Go.Operand.tmp 11), type := 3, pos := "law.go:284", after := #[{ on := 14, ground := Go.Ground.guard }], guard := some (14, false) }) (v := undef) rfl (by kernel_rfl) (by kernel_rfl) (by kernel_rfl) (fun _ _ _ h => h) (Or.inr ⟨by rfl, rfl⟩) (by assumption) ?_
            try simp only [Act.put, List.setIfInBounds_toArray, List.set_cons_zero, List.set_cons_succ]
            refine wpAnyH_take (i := 18) (oi := { dst := some 62, op := Go.Op.indexAddr 59 (Go.Operand.tmp 60) (Go.Operand.tmp 61), type := 0, pos := "law.go:284", after := #[{ on := 16, ground := Go.Ground.data }, { on := 17, ground := Go.Ground.data }, { on := 14, ground := Go.Ground.guard }], guard := some (14, false) }) (v := undef) rfl (by kernel_rfl) (by kernel_rfl) (by kernel_rfl) (fun _ _ _ h => h) (Or.inr ⟨by rfl, rfl⟩) (by assumption) ?_
            try simp only [Act.put, List.setIfInBounds_toArray, List.set_cons_zero, List.set_cons_succ]
            refine wpAnyH_take (i := 19) (oi := { dst := some 63, op := Go.Op.fieldAddr 73 (Go.Operand.tmp 62) 1, type := 0, pos := "law.go:284", after := #[{ on := 18, ground := Go.Ground.data }, { on := 14, ground := Go.Ground.guard }], guard := some (14, false) }) (v := undef) rfl (by kernel_rfl) (by kernel_rfl) (by kernel_rfl) (fun _ _ _ h => h) (Or.inr ⟨by rfl, rfl⟩) (by assumption) ?_
            try simp only [Act.put, List.setIfInBounds_toArray, List.set_cons_zero, List.set_cons_succ]
            refine wpAnyH_take (i := 20) (oi := { dst := some 64, op := Go.Op.load 3 (Go.Operand.tmp 63), type := 3, pos := "law.go:284", after := #[{ on := 19, ground := Go.Ground.data }, { on := 14, ground := Go.Ground.guard }], guard := some (14, false) }) (v := undef) rfl (by kernel_rfl) (by kernel_rfl) (by kernel_rfl) (fun _ _ _ h => h) (Or.inr ⟨by rfl, rfl⟩) (by assumption) ?_
            try simp only [Act.put, List.setIfInBounds_toArray, List.set_cons_zero, List.set_cons_succ]
            refine wpAnyH_take (i := 21) (oi := { dst := some 65, op := Go.Op.binOp Go.BinOp.neq 3 (Go.Operand.tmp 59) (Go.Operand.tmp 64) 3, type := 4, pos := "law.go:284", after := #[{ on := 15, ground := Go.Ground.data }, { on := 20, ground := Go.Ground.data }, { on := 14, ground := Go.Ground.guard }], guard := some (14, false) }) (v := undef) rfl (by kernel_rfl) (by kernel_rfl) (by kernel_rfl) (fun _ _ _ h => h) (Or.inr ⟨by rfl, rfl⟩) (by assumption) ?_
            try simp only [Act.put, List.setIfInBounds_toArray, List.set_cons_zero, List.set_cons_succ]
            refine wpAnyH_take (i := 22) (oi := { dst := some 66, op := Go.Op.pick (Go.Operand.tmp 58) (Go.Operand.const (Go.Value.bool true)) (Go.Operand.tmp 65), type := 4, pos := "law.go:284", after := #[{ on := 14, ground := Go.Ground.data }, { on := 21, ground := Go.Ground.data }], guard := none }) (v := ?_) rfl (by kernel_rfl) (by kernel_rfl) (by kernel_rfl) (fun _ _ _ h => h) (Or.inl ⟨by rfl, ?_⟩) (by assumption) ?_
            rotate_left
            · intro wq hSw; (try dsimp only at hSw); go_simp; (try with_reducible rfl)
            try simp only [Act.put, List.setIfInBounds_toArray, List.set_cons_zero, List.set_cons_succ]
            refine wpAnyH_done (by kernel_rfl) ?_ _
            refine noOut_normal ?_
            have cR9 := cellH R9
            have fzR9 := frozH R9
            clear RB9 St9 IB9 hH1 xI xP xB0 xB1 j0 j1 j2
            gi_wp2_with fail
            exact ⟨OnlyL.from (L := [w.heap.size + 1]) (OnlyL.setCell hoW (.inl (List.mem_singleton.2 rfl)) _) _ HCL.out, .inl (fun h => HXP.out (prefix_at h HP.out))⟩
        case done1 =>
          intro D1 xs W hD1 hxs hI hK
          rw [hxs] at hI
          obtain ⟨i1, i2, i3⟩ := hI
          subst ha
          have zq := i2.size
          have St8 : Hid (W.heap[w.heap.size]? = some (.cells #[.int .i64 stop] 3 (0, 0))) := (i2.block _ l7St).trans St7.out
          have R8 : Hid (W.heap[w.heap.size + 1]? = some (.cells #[.bool false] 4 (0, 0))) := (i2.block _ l7R).trans R7.out
          have PB8 : Hid (W.heap[w4.heap.size]? = some (.cells #[.slice A5 r.length c5] 59 (0, 0))) := (i2.block _ l7P).trans PB7.out
          have BX8 : Hid (W.heap[Bx]? = some (.cells #[.slice A3 r.length c3] 61 (0, 0))) := (i2.block _ l7B).trans BX7.out
          have RB8 : Hid (W.heap[rb9]? = some (.cells #[.int .i64 1] 3 (0, 0))) := (i2.block _ l7RB).trans RB7.out
          have HKD := Lib.hid hK
          have hw8 : Below w.heap.size w W := hw7.trans (i2.mono zw6)
          have hv8 : Below w4.heap.size w4 W := hv7.trans (i2.mono zv6)
          have hx8 : Below w3.heap.size w3 W := hx7.trans (i2.mono zx6)
          have KD08 := Lib.hid ((i2.block _ (by have := lD0; omega)).trans KD07.out)
          have IB8 : Hid (W.heap[ib]? = some (.cells #[.int .i64 r.length] 3 (0, 0))) := i1
          have cSt := cellH St8
          have cPB := cellH PB8
          have cRB := cellH RB8
          have cIB := cellH IB8
          clear i1 i2 i3 hK hxs
          gi_wp2_with fail
          have RB9 : Hid ((W.alloc (.cells #[.int .i64 2] 3)).heap[W.heap.size]? = some (.cells #[.int .i64 2] 3 (0, 0))) := blk_new rfl
          have St6 := Lib.hid (blk_old (o := .cells #[.int .i64 2] 3) St8.out)
          have R6 := Lib.hid (blk_old (o := .cells #[.int .i64 2] 3) R8.out)
          have PB6 := Lib.hid (blk_old (o := .cells #[.int .i64 2] 3) PB8.out)
          have BX6 := Lib.hid (blk_old (o := .cells #[.int .i64 2] 3) BX8.out)
          have KD1 := Lib.hid (blk_old (o := .cells #[.int .i64 2] 3) HKD.out)
          have KD0b := Lib.hid (blk_old (o := .cells #[.int .i64 2] 3) KD08.out)
          have zw8 := hw8.size
          have zv8 := hv8.size
          have zx8 := hx8.size
          have hw6 : Below w.heap.size w (W.alloc (.cells #[.int .i64 2] 3)) := by (repeat' (first | with_reducible exact Below.refl _ _ | with_reducible assumption | with_reducible refine Below.drew ?_ | with_reducible refine below_drewN ?_ _ | with_reducible refine Below.setCell ?_ ?_ _ | with_reducible refine Below.alloc ?_ ?_ _ | omega | (simp; done) | (simp; omega)))
          have hv6 : Below w4.heap.size w4 (W.alloc (.cells #[.int .i64 2] 3)) := by (repeat' (first | with_reducible exact Below.refl _ _ | with_reducible assumption | with_reducible refine Below.drew ?_ | with_reducible refine below_drewN ?_ _ | with_reducible refine Below.setCell ?_ ?_ _ | with_reducible refine Below.alloc ?_ ?_ _ | omega | (simp; done) | (simp; omega)))
          have hx6 : Below w3.heap.size w3 (W.alloc (.cells #[.int .i64 2] 3)) := by (repeat' (first | with_reducible exact Below.refl _ _ | with_reducible assumption | with_reducible refine Below.drew ?_ | with_reducible refine below_drewN ?_ _ | with_reducible refine Below.setCell ?_ ?_ _ | with_reducible refine Below.alloc ?_ ?_ _ | omega | (simp; done) | (simp; omega)))
          obtain ⟨rb9, hrb⟩ : ∃ rb9, W.heap.size = rb9 := ⟨_, rfl⟩
          clear St8 R8 PB8 BX8 RB8 IB8 HKD hw8 hv8 hx8 cSt cPB cRB cIB St7 R7 PB7 BX7 RB7 IB7 hw7 hv7 hx7 HA7
          generalize (W.alloc (.cells #[.int .i64 2] 3)) = w69 at *
          rw [hrb] at RB9 ⊢
          rw [hrb] at zw8 zv8 zx8 zq
          clear hrb
          have cRB := cellH RB9
          have cP := cellH PB6
          have cR := cellH R6
          have fzR := frozH R6
          rw [roundsIn_succ]
          gi_wp2_with fail

          have k1 : (w69.setCell ⟨w.heap.size + 1, 0, none⟩ (.bool true)).heap[D1]? = some (.deferred (some [])) := (KeepsOthers.setCell _ _ _).same D1 _ KD1.out rfl
          have k0 : ((w69.setCell ⟨w.heap.size + 1, 0, none⟩ (.bool true)).putObj D1 (.deferred none)).heap[D0]? = some (.deferred (some [])) := (World.putObj_heap_other (by omega)).trans ((KeepsOthers.setCell _ _ _).same D0 _ KD0b.out rfl)
          have HR : Hid ((((w69.setCell ⟨w.heap.size + 1, 0, none⟩ (.bool true)).putObj D1 (.deferred none)).putObj D0 (.deferred none)).heap[w.heap.size + 1]? = some (.cells #[.bool true] 4 (0, 0))) := (World.putObj_heap_other (by omega)).trans ((World.putObj_heap_other (by omega)).trans (setBox R6.out _))
          have hB : Below w.heap.size w (((w69.setCell ⟨w.heap.size + 1, 0, none⟩ (.bool true)).putObj D1 (.deferred none)).putObj D0 (.deferred none)) := Below.trans (Below.trans (hw6.setCell (by simp) _) (belowK_b (w := w) (Nat.le_refl _) _ D1 _ _ (by omega) k1 rfl rfl)) (belowK_b (w := w) (Nat.le_refl _) _ D0 _ _ (by omega) k0 rfl rfl)
          refine ⟨by simp, .inl ⟨_, _, rfl, run_takeDeferred k1, ⟨by simp, .inl ⟨_, _, rfl, run_takeDeferred k0, ?_⟩⟩⟩⟩
          clear k1 k0
          generalize (((w69.setCell ⟨w.heap.size + 1, 0, none⟩ (.bool true)).putObj D1 (.deferred none)).putObj D0 (.deferred none)) = wz at HR hB ⊢
          have c4 := cellH HR
          exact ⟨_, (by simp [results, Tryd.results5, go_sem, c4]), rfl, hB⟩

        case stop1 =>
          rintro D1 c pre W hD hpre hX hK
          rcases hX with h | ⟨h1, _, _⟩
          · exact absurd hpre h
          · omega


set_option maxRecDepth 100000 in
theorem lineAll_walk (l : List (Pc Int)) (A : Option Addr) (c : Nat) (stop : Int) (E : Nat → Addr) (w : World) (hl : RowAt encP 3 w w.heap.size A l) (hm : l.length ≤ 9223372036854775807) (hE : Env L6 E w) :
    Calls Tryd.prog 5 #[.slice A l.length c, .int .i64 stop] w fun e w' => e = .returned (.bool true) ∧ Below w.heap.size w w' := by
  by_cases h2 : 200 < l.length
  · exact lineAll_many l A c stop w h2
  · by_cases hv : ∀ p ∈ l, ValidP MD p
    · exact lineAll_good l A c stop w hl (by omega) hv
    · exact lineAll_bad l A c stop E w hl (by omega) (Classical.byContradiction fun h => hv fun p hp => Classical.byContradiction fun hn => h ⟨p, hp, hn⟩) hE

end Go.Proofs.YthgdjocoiniphaaDoor
