/- The iterator of a scale's parts: bears, bears$1: walks. -/
import Derived.Test.YtmankldedhgdiaaDoorScaleB
import Derived.Test.YtmankldedhgdiaaDoorSeq
namespace Go.Proofs.YtmankldedhgdiaaDoor
open Go.RowKit Go.Shelf
attribute [local go_sem] Oper.semAt_some

abbrev GQ := { q : Rat // Good q }

/-- a part, or the error ErrRange -/
def toO (q : Rat) : Option GQ := if h : Good q then some ⟨q, h⟩ else none

theorem toO_good {q : Rat} (h : Good q) : toO q = some ⟨q, h⟩ := dif_pos h
theorem toO_bad {q : Rat} (h : ¬ Good q) : toO q = none := dif_neg h

/-- where a bracket ends -/
def topQ (x : Rat) : List (Rat × Rat) → Rat
  | [] => x
  | c :: _ => minQ x c.1

/-- what one bracket bears -/
def partO (b : Rat × Rat) (t : Rat) : Option GQ := if Good (t - b.1) then toO (b.2 * (t - b.1)) else none

/-- what the iterator gives: the parts, an error last -/
def bearsO (x : Rat) : List (Rat × Rat) → List (Option GQ)
  | [] => []
  | b :: r => if x ≤ b.1 then [] else match partO b (topQ x r) with
    | none => [none]
    | some p => some p :: bearsO x r

theorem bears_stop {x : Rat} {b : Rat × Rat} {r : List (Rat × Rat)} (h : x ≤ b.1) : bearsO x (b :: r) = [] := by unfold bearsO; rw [if_pos h]
theorem bears_none {x : Rat} {b : Rat × Rat} {r : List (Rat × Rat)} (h : ¬ x ≤ b.1) (hp : partO b (topQ x r) = none) : bearsO x (b :: r) = [none] := by unfold bearsO; rw [if_neg h, hp]
theorem bears_some {x : Rat} {b : Rat × Rat} {r : List (Rat × Rat)} {p : GQ} (h : ¬ x ≤ b.1) (hp : partO b (topQ x r) = some p) : bearsO x (b :: r) = some p :: bearsO x r := by rw [bearsO, if_neg h, hp]
theorem bears_len (x : Rat) (l : List (Rat × Rat)) : (bearsO x l).length ≤ l.length := by
  induction l with
  | nil => exact Nat.le_refl _
  | cons b r ih =>
    unfold bearsO
    split
    · exact Nat.zero_le _
    · split
      · simp
      · simp only [List.length_cons]; omega

def encO (E : Nat → Addr) : Option GQ → Array Value
  | some q => #[.agg #[.int .i64 q.1.num, .int .i64 q.1.den], .nilIface]
  | none => #[.agg #[.int .i64 0, .int .i64 0], (.iface 122 (.pointer (some (E 5))))]

theorem encO_size (E : Nat → Addr) (x : Option GQ) : (encO E x).size = 2 := by cases x <;> rfl

/-- four cells of a built slice of two fractions -/
theorem row22 {w : World} {g : Nat} {x y : Rat} {t : TypeId} (h : Hid (w.heap[g]? = some (.cells #[.int .i64 x.num, .int .i64 x.den, .int .i64 y.num, .int .i64 y.den] t (0, 0)))) : RowAt encF 2 w w.heap.size (some ⟨g, 0, none⟩) [fq x, fq y] := by
  intro k z hz
  refine ⟨g, 0, rfl, lt_of_H h, fun j u hj => ?_⟩
  have hk : k < 2 := (List.getElem?_eq_some_iff.1 hz).1
  have hj2 : j < 2 := by have := (List.getElem?_eq_some_iff.1 hj).1; simpa [encF] using this
  rw [Nat.zero_add, cellH h]
  have h3 : k = 0 ∨ k = 1 := by omega
  have h4 : j = 0 ∨ j = 1 := by omega
  rcases h3 with rfl | rfl <;> rcases h4 with rfl | rfl <;> (simp at hz; subst hz; simpa [encF, fq] using hj)

theorem min_good {x y : Rat} (hx : Good x) (hy : Good y) : Good (minQ x y) := by unfold minQ; split <;> assumption
theorem top_good {x : Rat} (hx : Good x) {r : List (Rat × Rat)} (h : ∀ b ∈ r, GoodB b) : Good (topQ x r) := by
  cases r with
  | nil => exact hx
  | cons c r => exact min_good hx (h c (List.mem_cons_self ..)).1

theorem sub_two {E : Nat → Addr} {p q : Rat} {n d : Int} {err : Value} (hp : Good p) (hq : Good q) (h : ResF E (opI subR p.num p.den q.num q.den) n d err) :
    (Good (p - q) ∧ n = (p - q).num ∧ d = (p - q).den ∧ err = .nilIface) ∨ (¬ Good (p - q) ∧ n = 0 ∧ d = 0 ∧ err = (.iface 122 (.pointer (some (E 5))))) := by
  rw [opI_good _ hp hq] at h; exact resF_two h
theorem mul_two {E : Nat → Addr} {p q : Rat} {n d : Int} {err : Value} (hp : Good p) (hq : Good q) (h : ResF E (opI mulR p.num p.den q.num q.den) n d err) :
    (Good (p * q) ∧ n = (p * q).num ∧ d = (p * q).den ∧ err = .nilIface) ∨ (¬ Good (p * q) ∧ n = 0 ∧ d = 0 ∧ err = (.iface 122 (.pointer (some (E 5))))) := by
  rw [opI_good _ hp hq] at h; exact resF_two h
theorem add_two {E : Nat → Addr} {p q : Rat} {n d : Int} {err : Value} (hp : Good p) (hq : Good q) (h : ResF E (opI addR p.num p.den q.num q.den) n d err) :
    (Good (p + q) ∧ n = (p + q).num ∧ d = (p + q).den ∧ err = .nilIface) ∨ (¬ Good (p + q) ∧ n = 0 ∧ d = 0 ∧ err = (.iface 122 (.pointer (some (E 5))))) := by
  rw [opI_good _ hp hq] at h; exact resF_two h

theorem drop_cons {α : Type} {l : List α} {k : Nat} {x : α} (h : l[k]? = some x) : l.drop k = x :: l.drop (k + 1) := by
  obtain ⟨h1, h2⟩ := List.getElem?_eq_some_iff.1 h
  rw [← h2]; exact List.drop_eq_getElem_cons h1

set_option maxRecDepth 100000 in
set_option maxHeartbeats 8000000 in
theorem bears1_in (gs : List (Rat × Rat)) (x : Rat) (A : Option Addr) (c : Nat) (E : Nat → Addr) (w : World) (hx : Good x) (hg : ∀ b ∈ gs, GoodB b) (hm : gs.length ≤ 32)
    (hl : RowAt encR 4 w w.heap.size A (gs.map bR)) (hE : Env LC E w) (n l lo Bs Bx hi : Nat) (hBs : lo ≤ Bs ∧ Bs < hi) (hBx : lo ≤ Bx ∧ Bx < hi) (J Jx : List (Option GQ) → World → Prop) (W : World) (hJ : AbidesFrom W.heap.size J)
    (hY : ∀ pre y W1, J pre W1 → pre.length < gs.length → YieldAt Fence.wide (n - 1) Tryd.prog l (encO E y) W1 fun e W' => (e = .returned (.bool true) ∧ J (pre ++ [y]) W' ∧ KeepR w.heap.size lo hi W1 W') ∨ (e = .returned (.bool false) ∧ Jx (pre ++ [y]) W'))
    (hW : Below w.heap.size w W) (hhi : hi ≤ W.heap.size) (h1 : Hid (W.heap[Bs]? = some (.cells #[.slice A gs.length c] 22 (0, 0)))) (h2 : Hid (W.heap[Bx]? = some (.cells #[.int .i64 x.num, .int .i64 x.den] 24 (0, 0)))) (h0 : J [] W) :
    CallsIn Fence.wide n Tryd.prog 52 #[.func (.yield l) #[] #[], .pointer (some ⟨Bs, 0, none⟩), .pointer (some ⟨Bx, 0, none⟩)] W fun e W' => (∃ v, e = .returned v) ∧
      ((∃ ys, ys = bearsO x gs ∧ J ys W') ∨ (∃ pre, pre <+: bearsO x gs ∧ Jx pre W')) := by
  have HL := Lib.hid hl
  have HE := Lib.hid hE
  have HX := Lib.hid hx
  have HG := Lib.hid hg
  clear hl hE hx hg
  refine callsIn_of_wp Tryd.func52 rfl trivial ?_ rfl
  simp only [Tryd.ntmps52, List.size_toArray, List.length_cons, List.length_nil, Nat.reduceAdd, Nat.reduceSub, Array.replicate_succ, Array.replicate_zero, List.push_toArray, List.append_toArray, List.nil_append, List.cons_append]
  have c1 := cellH h1
  have c2 := cellH h2
  have l1 := lt_of_H h1
  have l2 := lt_of_H h2
  gi_wp2
  gi_loopw [12] (fun i wr => ∃ (k : Nat) (pre : List (Option GQ)), k ≤ gs.length ∧ i = .int .i64 k ∧ pre.length = k ∧ Hid (pre ++ bearsO x (gs.drop k) = bearsO x gs) ∧ J pre wr ∧ KeepR w.heap.size lo hi W wr) (fun i _ => gs.length - (intOf i).toNat)
  case atStart => exact ⟨0, [], Nat.zero_le _, rfl, rfl, rfl, h0, KeepR.refl _ _ _ _⟩
  case round =>
    clear c1 c2
    obtain ⟨k, pre, hk, rfl, hpl, hpre, hJs, hkr⟩ := hrel
    have HPL := Lib.hid hpl
    clear hpl
    have hw0 : Below w.heap.size w wr := hW.trans hkr.below
    have z0 := hw0.size
    have S : Hid (wr.heap[Bs]? = some (.cells #[.slice A gs.length c] 22 (0, 0))) := (hkr.mid _ hBs.1 hBs.2).trans h1.out
    have X : Hid (wr.heap[Bx]? = some (.cells #[.int .i64 x.num, .int .i64 x.den] 24 (0, 0))) := (hkr.mid _ hBx.1 hBx.2).trans h2.out
    have hsz : W.heap.size ≤ wr.heap.size := hkr.below.size
    by_cases hlt : k < gs.length
    · obtain ⟨b, hb⟩ : ∃ b, gs[k]? = some b := ⟨gs[k], List.getElem?_eq_getElem hlt⟩
      have G0 := Lib.hid (HG.out b (List.mem_of_getElem? hb))
      obtain ⟨g, off, hA, hgB, k0, k1, k2, k3⟩ := cells4 (HL.out.below hw0 (Nat.le_refl _)) (show (gs.map bR)[k]? = some (bR b) by rw [List.getElem?_map, hb]; rfl)
      subst hA
      replace k0 : wr.cell? ⟨g, off + k * 4, none⟩ = some (.int .i64 b.1.num) := k0
      replace k1 : wr.cell? ⟨g, off + k * 4 + 1, none⟩ = some (.int .i64 b.1.den) := k1
      replace k2 : wr.cell? ⟨g, off + k * 4 + 2, none⟩ = some (.int .i64 b.2.num) := k2
      replace k3 : wr.cell? ⟨g, off + k * 4 + 3, none⟩ = some (.int .i64 b.2.den) := k3
      have HB := Lib.hid hb
      have HD := Lib.hid (drop_cons hb)
      have HGR := Lib.hid (fun y (hy : y ∈ gs.drop (k + 1)) => HG.out y (List.mem_of_mem_drop hy))
      clear hb
      obtain ⟨cc, hcc⟩ : ∃ cc, cmpQ x b.1 = cc := ⟨_, rfl⟩
      have HC := Lib.hid hcc
      clear hcc
      by_cases hle : x ≤ b.1
      · have hc0 : cc ≤ 0 := by rw [← HC.out]; unfold cmpQ; split; omega; rw [if_neg (Rat.not_lt.2 hle)]; omega
        have HF : Hid (pre = bearsO x gs) := by have h := hpre.out; rw [HD.out, bears_stop hle, List.append_nil] at h; exact h
        clear hle
        have cS := cellH S
        obtain ⟨lS, lS1, lS2⟩ := ltH S
        have cX := cellH X
        obtain ⟨lX, lX1, lX2⟩ := ltH X
        gi_wp2_with fail
        first | refine wide_open ?_ | refine wide_open2 ?_
        refine (cmpS x b.1 cc _ HX.out G0.out.1 HC.out).mono ?_
        rintro e w1 ⟨rfl, hb1⟩
        have hw1 : Below w.heap.size w w1 := stepH (by (repeat' (first | with_reducible exact Below.refl _ _ | with_reducible assumption | with_reducible refine Below.drew ?_ | with_reducible refine below_drewN ?_ _ | with_reducible refine Below.setCell ?_ ?_ _ | with_reducible refine Below.alloc ?_ ?_ _ | omega | (simp; done) | (simp; omega)))) hb1
        have ho1 : OnlyL [] wr w1 := OnlyL.step (by (repeat' (first | with_reducible exact OnlyL.refl _ _ | with_reducible assumption | with_reducible refine OnlyL.drew ?_ | with_reducible refine OnlyL.drewN ?_ _ | with_reducible refine OnlyL.setCell ?_ ?_ _ | with_reducible refine OnlyL.alloc ?_ _ | omega | (simp; done) | (simp; omega)))) hb1
        replace S := keepH hb1 (blk_old S.out)
        replace X := keepH hb1 (blk_old X.out)
        have B := keepH hb1 (g := wr.heap.size) (blk_new rfl)
        have z1 := hw1.size
        clear hb1 hw0 z0
        clear cS lS lS1 lS2 cX lX lX1 lX2
        have cS := cellH S
        obtain ⟨lS, lS1, lS2⟩ := ltH S
        have cX := cellH X
        obtain ⟨lX, lX1, lX2⟩ := ltH X
        have cB := cellH B
        obtain ⟨lB, lB1, lB2⟩ := ltH B
        gi_wp2_with fail
        refine bodyPost_ret (results_none rfl _ _ _) rfl ?_
        exact ⟨⟨_, rfl⟩, .inl ⟨_, HF.out, abide hJ hJs (OnlyL.all (by (repeat' (first | with_reducible exact OnlyL.refl _ _ | with_reducible assumption | with_reducible refine OnlyL.drew ?_ | with_reducible refine OnlyL.drewN ?_ _ | with_reducible refine OnlyL.setCell ?_ ?_ _ | with_reducible refine OnlyL.alloc ?_ _ | omega | (simp; done) | (simp; omega)))))⟩⟩
      · have hc1 : 0 < cc := by rw [← HC.out, cmp_gt (Rat.not_le.1 hle)]; omega
        have HLE := Lib.hid hle
        clear hle
        by_cases hl2 : k + 1 < gs.length
        · obtain ⟨c2, hc2⟩ : ∃ c, gs[k + 1]? = some c := ⟨gs[k + 1], List.getElem?_eq_getElem hl2⟩
          have GC := Lib.hid (HG.out c2 (List.mem_of_getElem? hc2)).1
          have HE2 := Lib.hid (show (gs.map bR)[k + 1]? = some (bR c2) by rw [List.getElem?_map, hc2]; rfl)
          have HT2 := Lib.hid (min_good HX.out GC.out)
          have HT : Hid (topQ x (gs.drop (k + 1)) = minQ x c2.1) := by show _ = _; rw [drop_cons hc2]; rfl
          clear hc2
          have cS := cellH S
          obtain ⟨lS, lS1, lS2⟩ := ltH S
          have cX := cellH X
          obtain ⟨lX, lX1, lX2⟩ := ltH X
          gi_wp2_with fail
          first | refine wide_open ?_ | refine wide_open2 ?_
          refine (cmpS x b.1 cc _ HX.out G0.out.1 HC.out).mono ?_
          rintro e w1 ⟨rfl, hb1⟩
          have hw1 : Below w.heap.size w w1 := stepH (by (repeat' (first | with_reducible exact Below.refl _ _ | with_reducible assumption | with_reducible refine Below.drew ?_ | with_reducible refine below_drewN ?_ _ | with_reducible refine Below.setCell ?_ ?_ _ | with_reducible refine Below.alloc ?_ ?_ _ | omega | (simp; done) | (simp; omega)))) hb1
          have ho1 : OnlyL [] wr w1 := OnlyL.step (by (repeat' (first | with_reducible exact OnlyL.refl _ _ | with_reducible assumption | with_reducible refine OnlyL.drew ?_ | with_reducible refine OnlyL.drewN ?_ _ | with_reducible refine OnlyL.setCell ?_ ?_ _ | with_reducible refine OnlyL.alloc ?_ _ | omega | (simp; done) | (simp; omega)))) hb1
          replace S := keepH hb1 (blk_old S.out)
          replace X := keepH hb1 (blk_old X.out)
          have B := keepH hb1 (g := wr.heap.size) (blk_new rfl)
          have z1 := hw1.size
          clear hb1 hw0 z0
          clear cS lS lS1 lS2 cX lX lX1 lX2
          have cS := cellH S
          obtain ⟨lS, lS1, lS2⟩ := ltH S
          have cX := cellH X
          obtain ⟨lX, lX1, lX2⟩ := ltH X
          have cB := cellH B
          obtain ⟨lB, lB1, lB2⟩ := ltH B
          gi_upto_region 6 with fail
          have nX : Bx ≠ w1.heap.size := by omega
          have nS : Bs ≠ w1.heap.size := by omega
          have nG : g ≠ w1.heap.size := by omega
          have nB : wr.heap.size ≠ w1.heap.size := Nat.ne_of_lt (lt_of_H B)
          have nB1 : wr.heap.size ≤ w1.heap.size := Nat.le_of_lt (lt_of_H B)
          have hw2 : Below w.heap.size w (w1.alloc (.cells #[.int .i64 x.num, .int .i64 x.den] 24)) := by (repeat' (first | with_reducible exact Below.refl _ _ | with_reducible assumption | with_reducible refine Below.drew ?_ | with_reducible refine below_drewN ?_ _ | with_reducible refine Below.setCell ?_ ?_ _ | with_reducible refine Below.alloc ?_ ?_ _ | omega | (simp; done) | (simp; omega)))
          have ho2 : OnlyL [] wr (w1.alloc (.cells #[.int .i64 x.num, .int .i64 x.den] 24)) := by (repeat' (first | with_reducible exact OnlyL.refl _ _ | with_reducible assumption | with_reducible refine OnlyL.drew ?_ | with_reducible refine OnlyL.drewN ?_ _ | with_reducible refine OnlyL.setCell ?_ ?_ _ | with_reducible refine OnlyL.alloc ?_ _ | omega | (simp; done) | (simp; omega)))
          replace S : Hid ((w1.alloc (.cells #[.int .i64 x.num, .int .i64 x.den] 24)).heap[Bs]? = some (.cells #[.slice (some ⟨g, off, none⟩) gs.length c] 22 (0, 0))) := (blk_old S.out)
          replace X : Hid ((w1.alloc (.cells #[.int .i64 x.num, .int .i64 x.den] 24)).heap[Bx]? = some (.cells #[.int .i64 x.num, .int .i64 x.den] 24 (0, 0))) := (blk_old X.out)
          replace B : Hid ((w1.alloc (.cells #[.int .i64 x.num, .int .i64 x.den] 24)).heap[wr.heap.size]? = some (.cells #[.int .i64 b.1.num, .int .i64 b.1.den, .int .i64 b.2.num, .int .i64 b.2.den] 31 (0, 0))) := (blk_old B.out)
          have To : Hid ((w1.alloc (.cells #[.int .i64 x.num, .int .i64 x.den] 24)).heap[w1.heap.size]? = some (.cells #[.int .i64 x.num, .int .i64 x.den] 24 (0, 0))) := (blk_new rfl)
          clear cS lS lS1 lS2 cX lX lX1 lX2 cB lB lB1 lB2
          generalize (w1.alloc (.cells #[.int .i64 x.num, .int .i64 x.den] 24)) = w2 at *
          have z2 := hw2.size
          have cS := cellH S
          obtain ⟨lS, lS1, lS2⟩ := ltH S
          have cX := cellH X
          obtain ⟨lX, lX1, lX2⟩ := ltH X
          have cB := cellH B
          obtain ⟨lB, lB1, lB2⟩ := ltH B
          have cTo := cellH To
          obtain ⟨lTo, lTo1, lTo2⟩ := ltH To
          clear cS lS lS1 lS2 cX lX lX1 lX2 cB lB lB1 lB2 cTo lTo lTo1 lTo2
          obtain ⟨g', off', hA', _, j0, j1, _, _⟩ := cells4 (HL.out.below hw2 (Nat.le_refl _)) HE2.out
          injection hA' with hA'
          injection hA' with e1 e2
          subst e1 e2
          replace j0 : w2.cell? ⟨g, off + (k + 1) * 4, none⟩ = some (.int .i64 c2.1.num) := j0
          replace j1 : w2.cell? ⟨g, off + (k + 1) * 4 + 1, none⟩ = some (.int .i64 c2.1.den) := j1
          have s3 : (0 : Int) ≤ (k : Int) + 1 := by omega
          have s4 : (k : Int) + 1 < (gs.length : Int) := by omega
          have s5 : ((k : Int) + 1).toNat = k + 1 := by omega
          have s1 : IntKind.i64.wrap ((k : Int) + 1) = (k : Int) + 1 := IntWalk.i64_in _ (by omega)
          have lS := lt_of_H S
          have lX := lt_of_H X
          have lB := lt_of_H B
          have lTo := lt_of_H To
          have x0 : w2.cell? ⟨Bx, 0, none⟩ = some (.int .i64 x.num) := cellH X 0
          have x1 : w2.cell? ⟨Bx, 1, none⟩ = some (.int .i64 x.den) := cellH X 1
          have x2 : w2.cell? ⟨Bs, 0, none⟩ = some (.slice (some ⟨g, off, none⟩) gs.length c) := cellH S 0
          refine (wpIn_wide (n := n)).2 ?_
          go_region_held3 (fun w' => w'.cell? ⟨Bx, 0, none⟩ = some (.int .i64 x.num) ∧ w'.cell? ⟨Bx, 1, none⟩ = some (.int .i64 x.den) ∧ w'.cell? ⟨Bs, 0, none⟩ = some (.slice (some ⟨g, off, none⟩) gs.length c) ∧ w'.cell? ⟨g, off + (k + 1) * 4, none⟩ = some (.int .i64 c2.1.num) ∧ w'.cell? ⟨g, off + (k + 1) * 4 + 1, none⟩ = some (.int .i64 c2.1.den)) (first | with_reducible exact ⟨x0, x1, x2, j0, j1⟩ | with_reducible exact ⟨cell_set (cell_set x0 (by first | assumption | (dsimp only; assumption))) (by first | assumption | (dsimp only; assumption)), cell_set (cell_set x1 (by first | assumption | (dsimp only; assumption))) (by first | assumption | (dsimp only; assumption)), cell_set (cell_set x2 (by first | assumption | (dsimp only; assumption))) (by first | assumption | (dsimp only; assumption)), cell_set (cell_set j0 (by first | assumption | (dsimp only; assumption))) (by first | assumption | (dsimp only; assumption)), cell_set (cell_set j1 (by first | assumption | (dsimp only; assumption))) (by first | assumption | (dsimp only; assumption))⟩ | go_keep)
            (first | (go_at_call 53; refine (min2_any x c2.1 _ _ _ HX.out GC.out (row22 (by first | exact newH | exact drew_old newH))).mono ?_; rintro e w3 ⟨rfl, hb3⟩; have hw3 : Below w.heap.size w w3 := stepH (by (repeat' (first | with_reducible exact Below.refl _ _ | with_reducible assumption | with_reducible refine Below.drew ?_ | with_reducible refine below_drewN ?_ _ | with_reducible refine Below.setCell ?_ ?_ _ | with_reducible refine Below.alloc ?_ ?_ _ | omega | (simp; done) | (simp; omega)))) hb3; have ho3 : OnlyL [] wr w3 := OnlyL.step (by (repeat' (first | with_reducible exact OnlyL.refl _ _ | with_reducible assumption | with_reducible refine OnlyL.drew ?_ | with_reducible refine OnlyL.drewN ?_ _ | with_reducible refine OnlyL.setCell ?_ ?_ _ | with_reducible refine OnlyL.alloc ?_ _ | omega | (simp; done) | (simp; omega)))) hb3; replace S := keepH hb3 (by first | with_reducible exact blk_old S.out | with_reducible exact drew_old (blk_old S.out)); replace X := keepH hb3 (by first | with_reducible exact blk_old X.out | with_reducible exact drew_old (blk_old X.out)); replace B := keepH hb3 (by first | with_reducible exact blk_old B.out | with_reducible exact drew_old (blk_old B.out)); replace To := keepH hb3 (by first | with_reducible exact blk_old To.out | with_reducible exact drew_old (blk_old To.out)); replace x0 : w3.cell? ⟨Bx, 0, none⟩ = some (.int .i64 x.num) := cellH X 0; replace x1 : w3.cell? ⟨Bx, 1, none⟩ = some (.int .i64 x.den) := cellH X 1; replace x2 : w3.cell? ⟨Bs, 0, none⟩ = some (.slice (some ⟨g, off, none⟩) gs.length c) := cellH S 0; replace j0 := cellOf hb3 (by first | exact cell_alloc j0 | exact cell_drew (cell_alloc j0)); replace j1 := cellOf hb3 (by first | exact cell_alloc j1 | exact cell_drew (cell_alloc j1)); have cTo := cellH To; have lTo := lt_of_H To; have fTo := frozH To))
          clear x0 x1 x2 j0 j1 s1 s3 s4 s5 cTo lTo fTo
          have hw4 : Below w.heap.size w ((w3.setCell ⟨w1.heap.size, 0, none⟩ (.int .i64 (minQ x c2.1).num)).setCell ⟨w1.heap.size, 1, none⟩ (.int .i64 (minQ x c2.1).den)) := by (repeat' (first | with_reducible exact Below.refl _ _ | with_reducible assumption | with_reducible refine Below.drew ?_ | with_reducible refine below_drewN ?_ _ | with_reducible refine Below.setCell ?_ ?_ _ | with_reducible refine Below.alloc ?_ ?_ _ | omega | (simp; done) | (simp; omega)))
          have ho4 : OnlyL [] wr ((w3.setCell ⟨w1.heap.size, 0, none⟩ (.int .i64 (minQ x c2.1).num)).setCell ⟨w1.heap.size, 1, none⟩ (.int .i64 (minQ x c2.1).den)) := by (repeat' (first | with_reducible exact OnlyL.refl _ _ | with_reducible assumption | with_reducible refine OnlyL.drew ?_ | with_reducible refine OnlyL.drewN ?_ _ | with_reducible refine OnlyL.setCell ?_ ?_ _ | with_reducible refine OnlyL.alloc ?_ _ | omega | (simp; done) | (simp; omega)))
          replace S : Hid (((w3.setCell ⟨w1.heap.size, 0, none⟩ (.int .i64 (minQ x c2.1).num)).setCell ⟨w1.heap.size, 1, none⟩ (.int .i64 (minQ x c2.1).den)).heap[Bs]? = some (.cells #[.slice (some ⟨g, off, none⟩) gs.length c] 22 (0, 0))) := setH2o S (by first | assumption | omega)
          replace X : Hid (((w3.setCell ⟨w1.heap.size, 0, none⟩ (.int .i64 (minQ x c2.1).num)).setCell ⟨w1.heap.size, 1, none⟩ (.int .i64 (minQ x c2.1).den)).heap[Bx]? = some (.cells #[.int .i64 x.num, .int .i64 x.den] 24 (0, 0))) := setH2o X (by first | assumption | omega)
          replace B : Hid (((w3.setCell ⟨w1.heap.size, 0, none⟩ (.int .i64 (minQ x c2.1).num)).setCell ⟨w1.heap.size, 1, none⟩ (.int .i64 (minQ x c2.1).den)).heap[wr.heap.size]? = some (.cells #[.int .i64 b.1.num, .int .i64 b.1.den, .int .i64 b.2.num, .int .i64 b.2.den] 31 (0, 0))) := setH2o B (by first | assumption | omega)
          replace To : Hid (((w3.setCell ⟨w1.heap.size, 0, none⟩ (.int .i64 (minQ x c2.1).num)).setCell ⟨w1.heap.size, 1, none⟩ (.int .i64 (minQ x c2.1).den)).heap[w1.heap.size]? = some (.cells #[.int .i64 (minQ x c2.1).num, .int .i64 (minQ x c2.1).den] 24 (0, 0))) := setH2 To.out
          generalize ((w3.setCell ⟨w1.heap.size, 0, none⟩ (.int .i64 (minQ x c2.1).num)).setCell ⟨w1.heap.size, 1, none⟩ (.int .i64 (minQ x c2.1).den)) = w4 at *
          have z4 := hw4.size
          have cS := cellH S
          obtain ⟨lS, lS1, lS2⟩ := ltH S
          have cX := cellH X
          obtain ⟨lX, lX1, lX2⟩ := ltH X
          have cB := cellH B
          obtain ⟨lB, lB1, lB2⟩ := ltH B
          have cTo := cellH To
          obtain ⟨lTo, lTo1, lTo2⟩ := ltH To
          gi_wp2_with fail
          first | refine wide_open ?_ | refine wide_open2 ?_
          refine (sub_any (minQ x c2.1).num (minQ x c2.1).den b.1.num b.1.den E _ (bds HT2.out).1 (bds HT2.out).2.1 (bds HT2.out).2.2.1 (bds HT2.out).2.2.2 (bds G0.out.1).1 (bds G0.out.1).2.1 (bds G0.out.1).2.2.1 (bds G0.out.1).2.2.2 ((HE.out.below (by (repeat' (first | with_reducible exact Below.refl _ _ | with_reducible assumption | with_reducible refine Below.drew ?_ | with_reducible refine below_drewN ?_ _ | with_reducible refine Below.setCell ?_ ?_ _ | with_reducible refine Below.alloc ?_ ?_ _ | omega | (simp; done) | (simp; omega))))).sub (by decide))).mono ?_
          rintro e w5 ⟨⟨n', d', err, rfl, hr⟩, hb5⟩
          have hw5 : Below w.heap.size w w5 := stepH (by (repeat' (first | with_reducible exact Below.refl _ _ | with_reducible assumption | with_reducible refine Below.drew ?_ | with_reducible refine below_drewN ?_ _ | with_reducible refine Below.setCell ?_ ?_ _ | with_reducible refine Below.alloc ?_ ?_ _ | omega | (simp; done) | (simp; omega)))) hb5
          have ho5 : OnlyL [] wr w5 := OnlyL.step (by (repeat' (first | with_reducible exact OnlyL.refl _ _ | with_reducible assumption | with_reducible refine OnlyL.drew ?_ | with_reducible refine OnlyL.drewN ?_ _ | with_reducible refine OnlyL.setCell ?_ ?_ _ | with_reducible refine OnlyL.alloc ?_ _ | omega | (simp; done) | (simp; omega)))) hb5
          replace S := keepH hb5 S.out
          replace X := keepH hb5 X.out
          replace B := keepH hb5 B.out
          replace To := keepH hb5 To.out
          have z5 := hw5.size
          clear hb5 hw4 z4
          clear cS lS lS1 lS2 cX lX lX1 lX2 cB lB lB1 lB2 cTo lTo lTo1 lTo2
          have cS := cellH S
          obtain ⟨lS, lS1, lS2⟩ := ltH S
          have cX := cellH X
          obtain ⟨lX, lX1, lX2⟩ := ltH X
          have cB := cellH B
          obtain ⟨lB, lB1, lB2⟩ := ltH B
          have cTo := cellH To
          obtain ⟨lTo, lTo1, lTo2⟩ := ltH To
          rcases sub_two HT2.out G0.out.1 hr with ⟨hs, rfl, rfl, rfl⟩ | ⟨hs, rfl, rfl, rfl⟩
          all_goals clear hr
          · have hs2 : Good (b.2 * ((minQ x c2.1) - b.1)) ∨ ¬ Good (b.2 * ((minQ x c2.1) - b.1)) := Classical.em _
            gi_wp2_with fail
            first | refine wide_open ?_ | refine wide_open2 ?_
            refine (mul_any b.2.num b.2.den ((minQ x c2.1) - b.1).num ((minQ x c2.1) - b.1).den E _ (bds G0.out.2).1 (bds G0.out.2).2.1 (bds G0.out.2).2.2.1 (bds G0.out.2).2.2.2 (bds hs).1 (bds hs).2.1 (bds hs).2.2.1 (bds hs).2.2.2 ((HE.out.below (by (repeat' (first | with_reducible exact Below.refl _ _ | with_reducible assumption | with_reducible refine Below.drew ?_ | with_reducible refine below_drewN ?_ _ | with_reducible refine Below.setCell ?_ ?_ _ | with_reducible refine Below.alloc ?_ ?_ _ | omega | (simp; done) | (simp; omega))))).sub (by decide))).mono ?_
            rintro e w6 ⟨⟨n', d', err, rfl, hr⟩, hb6⟩
            have hw6 : Below w.heap.size w w6 := stepH (by (repeat' (first | with_reducible exact Below.refl _ _ | with_reducible assumption | with_reducible refine Below.drew ?_ | with_reducible refine below_drewN ?_ _ | with_reducible refine Below.setCell ?_ ?_ _ | with_reducible refine Below.alloc ?_ ?_ _ | omega | (simp; done) | (simp; omega)))) hb6
            have ho6 : OnlyL [] wr w6 := OnlyL.step (by (repeat' (first | with_reducible exact OnlyL.refl _ _ | with_reducible assumption | with_reducible refine OnlyL.drew ?_ | with_reducible refine OnlyL.drewN ?_ _ | with_reducible refine OnlyL.setCell ?_ ?_ _ | with_reducible refine OnlyL.alloc ?_ _ | omega | (simp; done) | (simp; omega)))) hb6
            replace S := keepH hb6 (blk_old S.out)
            replace X := keepH hb6 (blk_old X.out)
            replace B := keepH hb6 (blk_old B.out)
            replace To := keepH hb6 (blk_old To.out)
            have Wi := keepH hb6 (g := w5.heap.size) (blk_new rfl)
            have z6 := hw6.size
            clear hb6 hw5 z5
            clear cS lS lS1 lS2 cX lX lX1 lX2 cB lB lB1 lB2 cTo lTo lTo1 lTo2
            have cS := cellH S
            obtain ⟨lS, lS1, lS2⟩ := ltH S
            have cX := cellH X
            obtain ⟨lX, lX1, lX2⟩ := ltH X
            have cB := cellH B
            obtain ⟨lB, lB1, lB2⟩ := ltH B
            have cTo := cellH To
            obtain ⟨lTo, lTo1, lTo2⟩ := ltH To
            have cWi := cellH Wi
            obtain ⟨lWi, lWi1, lWi2⟩ := ltH Wi
            rcases mul_two G0.out.2 hs hr with ⟨hs3, rfl, rfl, rfl⟩ | ⟨hs3, rfl, rfl, rfl⟩
            all_goals clear hr
            · have HP : Hid (partO b (topQ x (gs.drop (k + 1))) = some ⟨_, hs3⟩) := by show _ = _; unfold partO; rw [HT.out, if_pos hs, toO_good hs3]
              have HF : Hid (pre ++ [some ⟨_, hs3⟩] ++ bearsO x (gs.drop (k + 1)) = bearsO x gs) := by have h := hpre.out; rw [HD.out, bears_some HLE.out HP.out] at h; show _ = _; rw [List.append_assoc]; exact h
              gi_upto_region 11 with fail
              have hw7 : Below w.heap.size w (w6.alloc (.cells #[.int .i64 (b.2 * ((minQ x c2.1) - b.1)).num, .int .i64 (b.2 * ((minQ x c2.1) - b.1)).den] 24)) := by (repeat' (first | with_reducible exact Below.refl _ _ | with_reducible assumption | with_reducible refine Below.drew ?_ | with_reducible refine below_drewN ?_ _ | with_reducible refine Below.setCell ?_ ?_ _ | with_reducible refine Below.alloc ?_ ?_ _ | omega | (simp; done) | (simp; omega)))
              have ho7 : OnlyL [] wr (w6.alloc (.cells #[.int .i64 (b.2 * ((minQ x c2.1) - b.1)).num, .int .i64 (b.2 * ((minQ x c2.1) - b.1)).den] 24)) := by (repeat' (first | with_reducible exact OnlyL.refl _ _ | with_reducible assumption | with_reducible refine OnlyL.drew ?_ | with_reducible refine OnlyL.drewN ?_ _ | with_reducible refine OnlyL.setCell ?_ ?_ _ | with_reducible refine OnlyL.alloc ?_ _ | omega | (simp; done) | (simp; omega)))
              replace S : Hid ((w6.alloc (.cells #[.int .i64 (b.2 * ((minQ x c2.1) - b.1)).num, .int .i64 (b.2 * ((minQ x c2.1) - b.1)).den] 24)).heap[Bs]? = some (.cells #[.slice (some ⟨g, off, none⟩) gs.length c] 22 (0, 0))) := (blk_old S.out)
              replace X : Hid ((w6.alloc (.cells #[.int .i64 (b.2 * ((minQ x c2.1) - b.1)).num, .int .i64 (b.2 * ((minQ x c2.1) - b.1)).den] 24)).heap[Bx]? = some (.cells #[.int .i64 x.num, .int .i64 x.den] 24 (0, 0))) := (blk_old X.out)
              replace B : Hid ((w6.alloc (.cells #[.int .i64 (b.2 * ((minQ x c2.1) - b.1)).num, .int .i64 (b.2 * ((minQ x c2.1) - b.1)).den] 24)).heap[wr.heap.size]? = some (.cells #[.int .i64 b.1.num, .int .i64 b.1.den, .int .i64 b.2.num, .int .i64 b.2.den] 31 (0, 0))) := (blk_old B.out)
              replace To : Hid ((w6.alloc (.cells #[.int .i64 (b.2 * ((minQ x c2.1) - b.1)).num, .int .i64 (b.2 * ((minQ x c2.1) - b.1)).den] 24)).heap[w1.heap.size]? = some (.cells #[.int .i64 (minQ x c2.1).num, .int .i64 (minQ x c2.1).den] 24 (0, 0))) := (blk_old To.out)
              replace Wi : Hid ((w6.alloc (.cells #[.int .i64 (b.2 * ((minQ x c2.1) - b.1)).num, .int .i64 (b.2 * ((minQ x c2.1) - b.1)).den] 24)).heap[w5.heap.size]? = some (.cells #[.int .i64 ((minQ x c2.1) - b.1).num, .int .i64 ((minQ x c2.1) - b.1).den] 24 (0, 0))) := (blk_old Wi.out)
              have Pa : Hid ((w6.alloc (.cells #[.int .i64 (b.2 * ((minQ x c2.1) - b.1)).num, .int .i64 (b.2 * ((minQ x c2.1) - b.1)).den] 24)).heap[w6.heap.size]? = some (.cells #[.int .i64 (b.2 * ((minQ x c2.1) - b.1)).num, .int .i64 (b.2 * ((minQ x c2.1) - b.1)).den] 24 (0, 0))) := (blk_new rfl)
              clear cS lS lS1 lS2 cX lX lX1 lX2 cB lB lB1 lB2 cTo lTo lTo1 lTo2 cWi lWi lWi1 lWi2
              generalize (w6.alloc (.cells #[.int .i64 (b.2 * ((minQ x c2.1) - b.1)).num, .int .i64 (b.2 * ((minQ x c2.1) - b.1)).den] 24)) = w7 at *
              have z7 := hw7.size
              have cS := cellH S
              obtain ⟨lS, lS1, lS2⟩ := ltH S
              have cX := cellH X
              obtain ⟨lX, lX1, lX2⟩ := ltH X
              have cB := cellH B
              obtain ⟨lB, lB1, lB2⟩ := ltH B
              have cTo := cellH To
              obtain ⟨lTo, lTo1, lTo2⟩ := ltH To
              have cWi := cellH Wi
              obtain ⟨lWi, lWi1, lWi2⟩ := ltH Wi
              have cPa := cellH Pa
              obtain ⟨lPa, lPa1, lPa2⟩ := ltH Pa
              clear cS lS lS1 lS2 cX lX lX1 lX2 cB lB lB1 lB2 cTo lTo lTo1 lTo2 cWi lWi lWi1 lWi2 cPa lPa lPa1 lPa2
              obtain ⟨fn, tmps, assign, body, hy, hR⟩ := hY pre (some ⟨_, hs3⟩) w7 (abide hJ hJs (OnlyL.all (by (repeat' (first | with_reducible exact OnlyL.refl _ _ | with_reducible assumption | with_reducible refine OnlyL.drew ?_ | with_reducible refine OnlyL.drewN ?_ _ | with_reducible refine OnlyL.setCell ?_ ?_ _ | with_reducible refine OnlyL.alloc ?_ _ | omega | (simp; done) | (simp; omega)))))) (by rw [HPL.out]; exact hlt)
              dsimp only [encO] at hy
              have hol : OnlyL [] wr w7 := by (repeat' (first | with_reducible exact OnlyL.refl _ _ | with_reducible assumption | with_reducible refine OnlyL.drew ?_ | with_reducible refine OnlyL.drewN ?_ _ | with_reducible refine OnlyL.setCell ?_ ?_ _ | with_reducible refine OnlyL.alloc ?_ _ | omega | (simp; done) | (simp; omega)))
              have hkr2 := hkr.trans (KeepR.ofBelow (lo := lo) (hi := hi) hol.all (Nat.le_trans hW.size hsz) (Nat.le_trans hhi hsz))
              have cS := cellH S
              obtain ⟨lS, lS1, lS2⟩ := ltH S
              have cX := cellH X
              obtain ⟨lX, lX1, lX2⟩ := ltH X
              have cB := cellH B
              obtain ⟨lB, lB1, lB2⟩ := ltH B
              have cTo := cellH To
              obtain ⟨lTo, lTo1, lTo2⟩ := ltH To
              have cWi := cellH Wi
              obtain ⟨lWi, lWi1, lWi2⟩ := ltH Wi
              have cPa := cellH Pa
              obtain ⟨lPa, lPa1, lPa2⟩ := ltH Pa
              gi_wp2_with fail
              refine ⟨(fun hd => by cases hd), hR.mono ?_⟩
              rintro e W3 (⟨rfl, hJ3, hk3⟩ | ⟨rfl, hJx3⟩)
              · gi_wp2_with fail
                go_roundw
                case rel => exact ⟨k + 1, pre ++ [(some ⟨_, hs3⟩)], by omega, by go_num, (by rw [List.length_append, HPL.out]; rfl), HF, hJ3, hkr2.trans hk3⟩
                case measure => simp [intOf]; omega
              · gi_wp2_with fail
                refine bodyPost_ret (results_none rfl _ _ _) rfl ?_
                exact ⟨⟨_, rfl⟩, .inr ⟨_, ⟨_, HF.out⟩, hJx3⟩⟩
            · have HF : Hid (pre ++ [none] = bearsO x gs) := by have h := hpre.out; rw [HD.out, bears_none HLE.out (by unfold partO; rw [HT.out, if_pos hs, toO_bad hs3])] at h; exact h
              have hen := fun w => eql_nil (E 5) w
              gi_upto_region 11 with fail
              have hw8 : Below w.heap.size w (w6.alloc (.cells #[.int .i64 0, .int .i64 0] 24)) := by (repeat' (first | with_reducible exact Below.refl _ _ | with_reducible assumption | with_reducible refine Below.drew ?_ | with_reducible refine below_drewN ?_ _ | with_reducible refine Below.setCell ?_ ?_ _ | with_reducible refine Below.alloc ?_ ?_ _ | omega | (simp; done) | (simp; omega)))
              have ho8 : OnlyL [] wr (w6.alloc (.cells #[.int .i64 0, .int .i64 0] 24)) := by (repeat' (first | with_reducible exact OnlyL.refl _ _ | with_reducible assumption | with_reducible refine OnlyL.drew ?_ | with_reducible refine OnlyL.drewN ?_ _ | with_reducible refine OnlyL.setCell ?_ ?_ _ | with_reducible refine OnlyL.alloc ?_ _ | omega | (simp; done) | (simp; omega)))
              replace S : Hid ((w6.alloc (.cells #[.int .i64 0, .int .i64 0] 24)).heap[Bs]? = some (.cells #[.slice (some ⟨g, off, none⟩) gs.length c] 22 (0, 0))) := (blk_old S.out)
              replace X : Hid ((w6.alloc (.cells #[.int .i64 0, .int .i64 0] 24)).heap[Bx]? = some (.cells #[.int .i64 x.num, .int .i64 x.den] 24 (0, 0))) := (blk_old X.out)
              replace B : Hid ((w6.alloc (.cells #[.int .i64 0, .int .i64 0] 24)).heap[wr.heap.size]? = some (.cells #[.int .i64 b.1.num, .int .i64 b.1.den, .int .i64 b.2.num, .int .i64 b.2.den] 31 (0, 0))) := (blk_old B.out)
              replace To : Hid ((w6.alloc (.cells #[.int .i64 0, .int .i64 0] 24)).heap[w1.heap.size]? = some (.cells #[.int .i64 (minQ x c2.1).num, .int .i64 (minQ x c2.1).den] 24 (0, 0))) := (blk_old To.out)
              replace Wi : Hid ((w6.alloc (.cells #[.int .i64 0, .int .i64 0] 24)).heap[w5.heap.size]? = some (.cells #[.int .i64 ((minQ x c2.1) - b.1).num, .int .i64 ((minQ x c2.1) - b.1).den] 24 (0, 0))) := (blk_old Wi.out)
              have Pa : Hid ((w6.alloc (.cells #[.int .i64 0, .int .i64 0] 24)).heap[w6.heap.size]? = some (.cells #[.int .i64 0, .int .i64 0] 24 (0, 0))) := (blk_new rfl)
              clear cS lS lS1 lS2 cX lX lX1 lX2 cB lB lB1 lB2 cTo lTo lTo1 lTo2 cWi lWi lWi1 lWi2
              generalize (w6.alloc (.cells #[.int .i64 0, .int .i64 0] 24)) = w8 at *
              have z8 := hw8.size
              have cS := cellH S
              obtain ⟨lS, lS1, lS2⟩ := ltH S
              have cX := cellH X
              obtain ⟨lX, lX1, lX2⟩ := ltH X
              have cB := cellH B
              obtain ⟨lB, lB1, lB2⟩ := ltH B
              have cTo := cellH To
              obtain ⟨lTo, lTo1, lTo2⟩ := ltH To
              have cWi := cellH Wi
              obtain ⟨lWi, lWi1, lWi2⟩ := ltH Wi
              have cPa := cellH Pa
              obtain ⟨lPa, lPa1, lPa2⟩ := ltH Pa
              clear cS lS lS1 lS2 cX lX lX1 lX2 cB lB lB1 lB2 cTo lTo lTo1 lTo2 cWi lWi lWi1 lWi2 cPa lPa lPa1 lPa2
              obtain ⟨fn, tmps, assign, body, hy, hR⟩ := hY pre none w8 (abide hJ hJs (OnlyL.all (by (repeat' (first | with_reducible exact OnlyL.refl _ _ | with_reducible assumption | with_reducible refine OnlyL.drew ?_ | with_reducible refine OnlyL.drewN ?_ _ | with_reducible refine OnlyL.setCell ?_ ?_ _ | with_reducible refine OnlyL.alloc ?_ _ | omega | (simp; done) | (simp; omega)))))) (by rw [HPL.out]; exact hlt)
              dsimp only [encO] at hy
              have hol : OnlyL [] wr w8 := by (repeat' (first | with_reducible exact OnlyL.refl _ _ | with_reducible assumption | with_reducible refine OnlyL.drew ?_ | with_reducible refine OnlyL.drewN ?_ _ | with_reducible refine OnlyL.setCell ?_ ?_ _ | with_reducible refine OnlyL.alloc ?_ _ | omega | (simp; done) | (simp; omega)))
              have hkr2 := hkr.trans (KeepR.ofBelow (lo := lo) (hi := hi) hol.all (Nat.le_trans hW.size hsz) (Nat.le_trans hhi hsz))
              have cS := cellH S
              obtain ⟨lS, lS1, lS2⟩ := ltH S
              have cX := cellH X
              obtain ⟨lX, lX1, lX2⟩ := ltH X
              have cB := cellH B
              obtain ⟨lB, lB1, lB2⟩ := ltH B
              have cTo := cellH To
              obtain ⟨lTo, lTo1, lTo2⟩ := ltH To
              have cWi := cellH Wi
              obtain ⟨lWi, lWi1, lWi2⟩ := ltH Wi
              have cPa := cellH Pa
              obtain ⟨lPa, lPa1, lPa2⟩ := ltH Pa
              gi_wp2_with fail
              refine ⟨(fun hd => by cases hd), hR.mono ?_⟩
              rintro e W3 (⟨rfl, hJ3, hk3⟩ | ⟨rfl, hJx3⟩)
              · gi_wp2_with fail
                refine bodyPost_ret (results_none rfl _ _ _) rfl ?_
                exact ⟨⟨_, rfl⟩, .inl ⟨_, HF.out, hJ3⟩⟩
              · gi_wp2_with fail
                refine bodyPost_ret (results_none rfl _ _ _) rfl ?_
                exact ⟨⟨_, rfl⟩, .inr ⟨_, ⟨[], by rw [List.append_nil]; exact HF.out⟩, hJx3⟩⟩
          · have HF : Hid (pre ++ [none] = bearsO x gs) := by have h := hpre.out; rw [HD.out, bears_none HLE.out (by unfold partO; rw [HT.out, if_neg hs])] at h; exact h
            have hen := fun w => eql_nil (E 5) w
            gi_upto_region 9 with fail
            have hw9 : Below w.heap.size w (w5.alloc (.cells #[.int .i64 0, .int .i64 0] 24)) := by (repeat' (first | with_reducible exact Below.refl _ _ | with_reducible assumption | with_reducible refine Below.drew ?_ | with_reducible refine below_drewN ?_ _ | with_reducible refine Below.setCell ?_ ?_ _ | with_reducible refine Below.alloc ?_ ?_ _ | omega | (simp; done) | (simp; omega)))
            have ho9 : OnlyL [] wr (w5.alloc (.cells #[.int .i64 0, .int .i64 0] 24)) := by (repeat' (first | with_reducible exact OnlyL.refl _ _ | with_reducible assumption | with_reducible refine OnlyL.drew ?_ | with_reducible refine OnlyL.drewN ?_ _ | with_reducible refine OnlyL.setCell ?_ ?_ _ | with_reducible refine OnlyL.alloc ?_ _ | omega | (simp; done) | (simp; omega)))
            replace S : Hid ((w5.alloc (.cells #[.int .i64 0, .int .i64 0] 24)).heap[Bs]? = some (.cells #[.slice (some ⟨g, off, none⟩) gs.length c] 22 (0, 0))) := (blk_old S.out)
            replace X : Hid ((w5.alloc (.cells #[.int .i64 0, .int .i64 0] 24)).heap[Bx]? = some (.cells #[.int .i64 x.num, .int .i64 x.den] 24 (0, 0))) := (blk_old X.out)
            replace B : Hid ((w5.alloc (.cells #[.int .i64 0, .int .i64 0] 24)).heap[wr.heap.size]? = some (.cells #[.int .i64 b.1.num, .int .i64 b.1.den, .int .i64 b.2.num, .int .i64 b.2.den] 31 (0, 0))) := (blk_old B.out)
            replace To : Hid ((w5.alloc (.cells #[.int .i64 0, .int .i64 0] 24)).heap[w1.heap.size]? = some (.cells #[.int .i64 (minQ x c2.1).num, .int .i64 (minQ x c2.1).den] 24 (0, 0))) := (blk_old To.out)
            have Wi : Hid ((w5.alloc (.cells #[.int .i64 0, .int .i64 0] 24)).heap[w5.heap.size]? = some (.cells #[.int .i64 0, .int .i64 0] 24 (0, 0))) := (blk_new rfl)
            clear cS lS lS1 lS2 cX lX lX1 lX2 cB lB lB1 lB2 cTo lTo lTo1 lTo2
            generalize (w5.alloc (.cells #[.int .i64 0, .int .i64 0] 24)) = w9 at *
            have z9 := hw9.size
            have cS := cellH S
            obtain ⟨lS, lS1, lS2⟩ := ltH S
            have cX := cellH X
            obtain ⟨lX, lX1, lX2⟩ := ltH X
            have cB := cellH B
            obtain ⟨lB, lB1, lB2⟩ := ltH B
            have cTo := cellH To
            obtain ⟨lTo, lTo1, lTo2⟩ := ltH To
            have cWi := cellH Wi
            obtain ⟨lWi, lWi1, lWi2⟩ := ltH Wi
            clear cS lS lS1 lS2 cX lX lX1 lX2 cB lB lB1 lB2 cTo lTo lTo1 lTo2 cWi lWi lWi1 lWi2
            obtain ⟨fn, tmps, assign, body, hy, hR⟩ := hY pre none w9 (abide hJ hJs (OnlyL.all (by (repeat' (first | with_reducible exact OnlyL.refl _ _ | with_reducible assumption | with_reducible refine OnlyL.drew ?_ | with_reducible refine OnlyL.drewN ?_ _ | with_reducible refine OnlyL.setCell ?_ ?_ _ | with_reducible refine OnlyL.alloc ?_ _ | omega | (simp; done) | (simp; omega)))))) (by rw [HPL.out]; exact hlt)
            dsimp only [encO] at hy
            have hol : OnlyL [] wr w9 := by (repeat' (first | with_reducible exact OnlyL.refl _ _ | with_reducible assumption | with_reducible refine OnlyL.drew ?_ | with_reducible refine OnlyL.drewN ?_ _ | with_reducible refine OnlyL.setCell ?_ ?_ _ | with_reducible refine OnlyL.alloc ?_ _ | omega | (simp; done) | (simp; omega)))
            have hkr2 := hkr.trans (KeepR.ofBelow (lo := lo) (hi := hi) hol.all (Nat.le_trans hW.size hsz) (Nat.le_trans hhi hsz))
            have cS := cellH S
            obtain ⟨lS, lS1, lS2⟩ := ltH S
            have cX := cellH X
            obtain ⟨lX, lX1, lX2⟩ := ltH X
            have cB := cellH B
            obtain ⟨lB, lB1, lB2⟩ := ltH B
            have cTo := cellH To
            obtain ⟨lTo, lTo1, lTo2⟩ := ltH To
            have cWi := cellH Wi
            obtain ⟨lWi, lWi1, lWi2⟩ := ltH Wi
            gi_wp2_with fail
            refine ⟨(fun hd => by cases hd), hR.mono ?_⟩
            rintro e W3 (⟨rfl, hJ3, hk3⟩ | ⟨rfl, hJx3⟩)
            · gi_wp2_with fail
              refine bodyPost_ret (results_none rfl _ _ _) rfl ?_
              exact ⟨⟨_, rfl⟩, .inl ⟨_, HF.out, hJ3⟩⟩
            · gi_wp2_with fail
              refine bodyPost_ret (results_none rfl _ _ _) rfl ?_
              exact ⟨⟨_, rfl⟩, .inr ⟨_, ⟨[], by rw [List.append_nil]; exact HF.out⟩, hJx3⟩⟩
        · obtain hkl : k + 1 = gs.length := by omega
          have HT : Hid (topQ x (gs.drop (k + 1)) = x) := by show _ = _; rw [hkl, List.drop_length]; rfl
          have HT2 := HX
          clear hkl
          have cS := cellH S
          obtain ⟨lS, lS1, lS2⟩ := ltH S
          have cX := cellH X
          obtain ⟨lX, lX1, lX2⟩ := ltH X
          gi_wp2_with fail
          first | refine wide_open ?_ | refine wide_open2 ?_
          refine (cmpS x b.1 cc _ HX.out G0.out.1 HC.out).mono ?_
          rintro e w1 ⟨rfl, hb1⟩
          have hw1 : Below w.heap.size w w1 := stepH (by (repeat' (first | with_reducible exact Below.refl _ _ | with_reducible assumption | with_reducible refine Below.drew ?_ | with_reducible refine below_drewN ?_ _ | with_reducible refine Below.setCell ?_ ?_ _ | with_reducible refine Below.alloc ?_ ?_ _ | omega | (simp; done) | (simp; omega)))) hb1
          have ho1 : OnlyL [] wr w1 := OnlyL.step (by (repeat' (first | with_reducible exact OnlyL.refl _ _ | with_reducible assumption | with_reducible refine OnlyL.drew ?_ | with_reducible refine OnlyL.drewN ?_ _ | with_reducible refine OnlyL.setCell ?_ ?_ _ | with_reducible refine OnlyL.alloc ?_ _ | omega | (simp; done) | (simp; omega)))) hb1
          replace S := keepH hb1 (blk_old S.out)
          replace X := keepH hb1 (blk_old X.out)
          have B := keepH hb1 (g := wr.heap.size) (blk_new rfl)
          have z1 := hw1.size
          clear hb1 hw0 z0
          clear cS lS lS1 lS2 cX lX lX1 lX2
          have cS := cellH S
          obtain ⟨lS, lS1, lS2⟩ := ltH S
          have cX := cellH X
          obtain ⟨lX, lX1, lX2⟩ := ltH X
          have cB := cellH B
          obtain ⟨lB, lB1, lB2⟩ := ltH B
          gi_wp2_with fail
          first | refine wide_open ?_ | refine wide_open2 ?_
          refine (sub_any x.num x.den b.1.num b.1.den E _ (bds HT2.out).1 (bds HT2.out).2.1 (bds HT2.out).2.2.1 (bds HT2.out).2.2.2 (bds G0.out.1).1 (bds G0.out.1).2.1 (bds G0.out.1).2.2.1 (bds G0.out.1).2.2.2 ((HE.out.below (by (repeat' (first | with_reducible exact Below.refl _ _ | with_reducible assumption | with_reducible refine Below.drew ?_ | with_reducible refine below_drewN ?_ _ | with_reducible refine Below.setCell ?_ ?_ _ | with_reducible refine Below.alloc ?_ ?_ _ | omega | (simp; done) | (simp; omega))))).sub (by decide))).mono ?_
          rintro e w2 ⟨⟨n', d', err, rfl, hr⟩, hb2⟩
          have hw2 : Below w.heap.size w w2 := stepH (by (repeat' (first | with_reducible exact Below.refl _ _ | with_reducible assumption | with_reducible refine Below.drew ?_ | with_reducible refine below_drewN ?_ _ | with_reducible refine Below.setCell ?_ ?_ _ | with_reducible refine Below.alloc ?_ ?_ _ | omega | (simp; done) | (simp; omega)))) hb2
          have ho2 : OnlyL [] wr w2 := OnlyL.step (by (repeat' (first | with_reducible exact OnlyL.refl _ _ | with_reducible assumption | with_reducible refine OnlyL.drew ?_ | with_reducible refine OnlyL.drewN ?_ _ | with_reducible refine OnlyL.setCell ?_ ?_ _ | with_reducible refine OnlyL.alloc ?_ _ | omega | (simp; done) | (simp; omega)))) hb2
          replace S := keepH hb2 (blk_old S.out)
          replace X := keepH hb2 (blk_old X.out)
          replace B := keepH hb2 (blk_old B.out)
          have To := keepH hb2 (g := w1.heap.size) (blk_new rfl)
          have z2 := hw2.size
          clear hb2 hw1 z1
          clear cS lS lS1 lS2 cX lX lX1 lX2 cB lB lB1 lB2
          have cS := cellH S
          obtain ⟨lS, lS1, lS2⟩ := ltH S
          have cX := cellH X
          obtain ⟨lX, lX1, lX2⟩ := ltH X
          have cB := cellH B
          obtain ⟨lB, lB1, lB2⟩ := ltH B
          have cTo := cellH To
          obtain ⟨lTo, lTo1, lTo2⟩ := ltH To
          rcases sub_two HT2.out G0.out.1 hr with ⟨hs, rfl, rfl, rfl⟩ | ⟨hs, rfl, rfl, rfl⟩
          all_goals clear hr
          · have hs2 : Good (b.2 * (x - b.1)) ∨ ¬ Good (b.2 * (x - b.1)) := Classical.em _
            gi_wp2_with fail
            first | refine wide_open ?_ | refine wide_open2 ?_
            refine (mul_any b.2.num b.2.den (x - b.1).num (x - b.1).den E _ (bds G0.out.2).1 (bds G0.out.2).2.1 (bds G0.out.2).2.2.1 (bds G0.out.2).2.2.2 (bds hs).1 (bds hs).2.1 (bds hs).2.2.1 (bds hs).2.2.2 ((HE.out.below (by (repeat' (first | with_reducible exact Below.refl _ _ | with_reducible assumption | with_reducible refine Below.drew ?_ | with_reducible refine below_drewN ?_ _ | with_reducible refine Below.setCell ?_ ?_ _ | with_reducible refine Below.alloc ?_ ?_ _ | omega | (simp; done) | (simp; omega))))).sub (by decide))).mono ?_
            rintro e w3 ⟨⟨n', d', err, rfl, hr⟩, hb3⟩
            have hw3 : Below w.heap.size w w3 := stepH (by (repeat' (first | with_reducible exact Below.refl _ _ | with_reducible assumption | with_reducible refine Below.drew ?_ | with_reducible refine below_drewN ?_ _ | with_reducible refine Below.setCell ?_ ?_ _ | with_reducible refine Below.alloc ?_ ?_ _ | omega | (simp; done) | (simp; omega)))) hb3
            have ho3 : OnlyL [] wr w3 := OnlyL.step (by (repeat' (first | with_reducible exact OnlyL.refl _ _ | with_reducible assumption | with_reducible refine OnlyL.drew ?_ | with_reducible refine OnlyL.drewN ?_ _ | with_reducible refine OnlyL.setCell ?_ ?_ _ | with_reducible refine OnlyL.alloc ?_ _ | omega | (simp; done) | (simp; omega)))) hb3
            replace S := keepH hb3 (blk_old S.out)
            replace X := keepH hb3 (blk_old X.out)
            replace B := keepH hb3 (blk_old B.out)
            replace To := keepH hb3 (blk_old To.out)
            have Wi := keepH hb3 (g := w2.heap.size) (blk_new rfl)
            have z3 := hw3.size
            clear hb3 hw2 z2
            clear cS lS lS1 lS2 cX lX lX1 lX2 cB lB lB1 lB2 cTo lTo lTo1 lTo2
            have cS := cellH S
            obtain ⟨lS, lS1, lS2⟩ := ltH S
            have cX := cellH X
            obtain ⟨lX, lX1, lX2⟩ := ltH X
            have cB := cellH B
            obtain ⟨lB, lB1, lB2⟩ := ltH B
            have cTo := cellH To
            obtain ⟨lTo, lTo1, lTo2⟩ := ltH To
            have cWi := cellH Wi
            obtain ⟨lWi, lWi1, lWi2⟩ := ltH Wi
            rcases mul_two G0.out.2 hs hr with ⟨hs3, rfl, rfl, rfl⟩ | ⟨hs3, rfl, rfl, rfl⟩
            all_goals clear hr
            · have HP : Hid (partO b (topQ x (gs.drop (k + 1))) = some ⟨_, hs3⟩) := by show _ = _; unfold partO; rw [HT.out, if_pos hs, toO_good hs3]
              have HF : Hid (pre ++ [some ⟨_, hs3⟩] ++ bearsO x (gs.drop (k + 1)) = bearsO x gs) := by have h := hpre.out; rw [HD.out, bears_some HLE.out HP.out] at h; show _ = _; rw [List.append_assoc]; exact h
              gi_upto_region 11 with fail
              have hw4 : Below w.heap.size w (w3.alloc (.cells #[.int .i64 (b.2 * (x - b.1)).num, .int .i64 (b.2 * (x - b.1)).den] 24)) := by (repeat' (first | with_reducible exact Below.refl _ _ | with_reducible assumption | with_reducible refine Below.drew ?_ | with_reducible refine below_drewN ?_ _ | with_reducible refine Below.setCell ?_ ?_ _ | with_reducible refine Below.alloc ?_ ?_ _ | omega | (simp; done) | (simp; omega)))
              have ho4 : OnlyL [] wr (w3.alloc (.cells #[.int .i64 (b.2 * (x - b.1)).num, .int .i64 (b.2 * (x - b.1)).den] 24)) := by (repeat' (first | with_reducible exact OnlyL.refl _ _ | with_reducible assumption | with_reducible refine OnlyL.drew ?_ | with_reducible refine OnlyL.drewN ?_ _ | with_reducible refine OnlyL.setCell ?_ ?_ _ | with_reducible refine OnlyL.alloc ?_ _ | omega | (simp; done) | (simp; omega)))
              replace S : Hid ((w3.alloc (.cells #[.int .i64 (b.2 * (x - b.1)).num, .int .i64 (b.2 * (x - b.1)).den] 24)).heap[Bs]? = some (.cells #[.slice (some ⟨g, off, none⟩) gs.length c] 22 (0, 0))) := (blk_old S.out)
              replace X : Hid ((w3.alloc (.cells #[.int .i64 (b.2 * (x - b.1)).num, .int .i64 (b.2 * (x - b.1)).den] 24)).heap[Bx]? = some (.cells #[.int .i64 x.num, .int .i64 x.den] 24 (0, 0))) := (blk_old X.out)
              replace B : Hid ((w3.alloc (.cells #[.int .i64 (b.2 * (x - b.1)).num, .int .i64 (b.2 * (x - b.1)).den] 24)).heap[wr.heap.size]? = some (.cells #[.int .i64 b.1.num, .int .i64 b.1.den, .int .i64 b.2.num, .int .i64 b.2.den] 31 (0, 0))) := (blk_old B.out)
              replace To : Hid ((w3.alloc (.cells #[.int .i64 (b.2 * (x - b.1)).num, .int .i64 (b.2 * (x - b.1)).den] 24)).heap[w1.heap.size]? = some (.cells #[.int .i64 x.num, .int .i64 x.den] 24 (0, 0))) := (blk_old To.out)
              replace Wi : Hid ((w3.alloc (.cells #[.int .i64 (b.2 * (x - b.1)).num, .int .i64 (b.2 * (x - b.1)).den] 24)).heap[w2.heap.size]? = some (.cells #[.int .i64 (x - b.1).num, .int .i64 (x - b.1).den] 24 (0, 0))) := (blk_old Wi.out)
              have Pa : Hid ((w3.alloc (.cells #[.int .i64 (b.2 * (x - b.1)).num, .int .i64 (b.2 * (x - b.1)).den] 24)).heap[w3.heap.size]? = some (.cells #[.int .i64 (b.2 * (x - b.1)).num, .int .i64 (b.2 * (x - b.1)).den] 24 (0, 0))) := (blk_new rfl)
              clear cS lS lS1 lS2 cX lX lX1 lX2 cB lB lB1 lB2 cTo lTo lTo1 lTo2 cWi lWi lWi1 lWi2
              generalize (w3.alloc (.cells #[.int .i64 (b.2 * (x - b.1)).num, .int .i64 (b.2 * (x - b.1)).den] 24)) = w4 at *
              have z4 := hw4.size
              have cS := cellH S
              obtain ⟨lS, lS1, lS2⟩ := ltH S
              have cX := cellH X
              obtain ⟨lX, lX1, lX2⟩ := ltH X
              have cB := cellH B
              obtain ⟨lB, lB1, lB2⟩ := ltH B
              have cTo := cellH To
              obtain ⟨lTo, lTo1, lTo2⟩ := ltH To
              have cWi := cellH Wi
              obtain ⟨lWi, lWi1, lWi2⟩ := ltH Wi
              have cPa := cellH Pa
              obtain ⟨lPa, lPa1, lPa2⟩ := ltH Pa
              clear cS lS lS1 lS2 cX lX lX1 lX2 cB lB lB1 lB2 cTo lTo lTo1 lTo2 cWi lWi lWi1 lWi2 cPa lPa lPa1 lPa2
              obtain ⟨fn, tmps, assign, body, hy, hR⟩ := hY pre (some ⟨_, hs3⟩) w4 (abide hJ hJs (OnlyL.all (by (repeat' (first | with_reducible exact OnlyL.refl _ _ | with_reducible assumption | with_reducible refine OnlyL.drew ?_ | with_reducible refine OnlyL.drewN ?_ _ | with_reducible refine OnlyL.setCell ?_ ?_ _ | with_reducible refine OnlyL.alloc ?_ _ | omega | (simp; done) | (simp; omega)))))) (by rw [HPL.out]; exact hlt)
              dsimp only [encO] at hy
              have hol : OnlyL [] wr w4 := by (repeat' (first | with_reducible exact OnlyL.refl _ _ | with_reducible assumption | with_reducible refine OnlyL.drew ?_ | with_reducible refine OnlyL.drewN ?_ _ | with_reducible refine OnlyL.setCell ?_ ?_ _ | with_reducible refine OnlyL.alloc ?_ _ | omega | (simp; done) | (simp; omega)))
              have hkr2 := hkr.trans (KeepR.ofBelow (lo := lo) (hi := hi) hol.all (Nat.le_trans hW.size hsz) (Nat.le_trans hhi hsz))
              have cS := cellH S
              obtain ⟨lS, lS1, lS2⟩ := ltH S
              have cX := cellH X
              obtain ⟨lX, lX1, lX2⟩ := ltH X
              have cB := cellH B
              obtain ⟨lB, lB1, lB2⟩ := ltH B
              have cTo := cellH To
              obtain ⟨lTo, lTo1, lTo2⟩ := ltH To
              have cWi := cellH Wi
              obtain ⟨lWi, lWi1, lWi2⟩ := ltH Wi
              have cPa := cellH Pa
              obtain ⟨lPa, lPa1, lPa2⟩ := ltH Pa
              gi_wp2_with fail
              refine ⟨(fun hd => by cases hd), hR.mono ?_⟩
              rintro e W3 (⟨rfl, hJ3, hk3⟩ | ⟨rfl, hJx3⟩)
              · gi_wp2_with fail
                go_roundw
                case rel => exact ⟨k + 1, pre ++ [(some ⟨_, hs3⟩)], by omega, by go_num, (by rw [List.length_append, HPL.out]; rfl), HF, hJ3, hkr2.trans hk3⟩
                case measure => simp [intOf]; omega
              · gi_wp2_with fail
                refine bodyPost_ret (results_none rfl _ _ _) rfl ?_
                exact ⟨⟨_, rfl⟩, .inr ⟨_, ⟨_, HF.out⟩, hJx3⟩⟩
            · have HF : Hid (pre ++ [none] = bearsO x gs) := by have h := hpre.out; rw [HD.out, bears_none HLE.out (by unfold partO; rw [HT.out, if_pos hs, toO_bad hs3])] at h; exact h
              have hen := fun w => eql_nil (E 5) w
              gi_upto_region 11 with fail
              have hw5 : Below w.heap.size w (w3.alloc (.cells #[.int .i64 0, .int .i64 0] 24)) := by (repeat' (first | with_reducible exact Below.refl _ _ | with_reducible assumption | with_reducible refine Below.drew ?_ | with_reducible refine below_drewN ?_ _ | with_reducible refine Below.setCell ?_ ?_ _ | with_reducible refine Below.alloc ?_ ?_ _ | omega | (simp; done) | (simp; omega)))
              have ho5 : OnlyL [] wr (w3.alloc (.cells #[.int .i64 0, .int .i64 0] 24)) := by (repeat' (first | with_reducible exact OnlyL.refl _ _ | with_reducible assumption | with_reducible refine OnlyL.drew ?_ | with_reducible refine OnlyL.drewN ?_ _ | with_reducible refine OnlyL.setCell ?_ ?_ _ | with_reducible refine OnlyL.alloc ?_ _ | omega | (simp; done) | (simp; omega)))
              replace S : Hid ((w3.alloc (.cells #[.int .i64 0, .int .i64 0] 24)).heap[Bs]? = some (.cells #[.slice (some ⟨g, off, none⟩) gs.length c] 22 (0, 0))) := (blk_old S.out)
              replace X : Hid ((w3.alloc (.cells #[.int .i64 0, .int .i64 0] 24)).heap[Bx]? = some (.cells #[.int .i64 x.num, .int .i64 x.den] 24 (0, 0))) := (blk_old X.out)
              replace B : Hid ((w3.alloc (.cells #[.int .i64 0, .int .i64 0] 24)).heap[wr.heap.size]? = some (.cells #[.int .i64 b.1.num, .int .i64 b.1.den, .int .i64 b.2.num, .int .i64 b.2.den] 31 (0, 0))) := (blk_old B.out)
              replace To : Hid ((w3.alloc (.cells #[.int .i64 0, .int .i64 0] 24)).heap[w1.heap.size]? = some (.cells #[.int .i64 x.num, .int .i64 x.den] 24 (0, 0))) := (blk_old To.out)
              replace Wi : Hid ((w3.alloc (.cells #[.int .i64 0, .int .i64 0] 24)).heap[w2.heap.size]? = some (.cells #[.int .i64 (x - b.1).num, .int .i64 (x - b.1).den] 24 (0, 0))) := (blk_old Wi.out)
              have Pa : Hid ((w3.alloc (.cells #[.int .i64 0, .int .i64 0] 24)).heap[w3.heap.size]? = some (.cells #[.int .i64 0, .int .i64 0] 24 (0, 0))) := (blk_new rfl)
              clear cS lS lS1 lS2 cX lX lX1 lX2 cB lB lB1 lB2 cTo lTo lTo1 lTo2 cWi lWi lWi1 lWi2
              generalize (w3.alloc (.cells #[.int .i64 0, .int .i64 0] 24)) = w5 at *
              have z5 := hw5.size
              have cS := cellH S
              obtain ⟨lS, lS1, lS2⟩ := ltH S
              have cX := cellH X
              obtain ⟨lX, lX1, lX2⟩ := ltH X
              have cB := cellH B
              obtain ⟨lB, lB1, lB2⟩ := ltH B
              have cTo := cellH To
              obtain ⟨lTo, lTo1, lTo2⟩ := ltH To
              have cWi := cellH Wi
              obtain ⟨lWi, lWi1, lWi2⟩ := ltH Wi
              have cPa := cellH Pa
              obtain ⟨lPa, lPa1, lPa2⟩ := ltH Pa
              clear cS lS lS1 lS2 cX lX lX1 lX2 cB lB lB1 lB2 cTo lTo lTo1 lTo2 cWi lWi lWi1 lWi2 cPa lPa lPa1 lPa2
              obtain ⟨fn, tmps, assign, body, hy, hR⟩ := hY pre none w5 (abide hJ hJs (OnlyL.all (by (repeat' (first | with_reducible exact OnlyL.refl _ _ | with_reducible assumption | with_reducible refine OnlyL.drew ?_ | with_reducible refine OnlyL.drewN ?_ _ | with_reducible refine OnlyL.setCell ?_ ?_ _ | with_reducible refine OnlyL.alloc ?_ _ | omega | (simp; done) | (simp; omega)))))) (by rw [HPL.out]; exact hlt)
              dsimp only [encO] at hy
              have hol : OnlyL [] wr w5 := by (repeat' (first | with_reducible exact OnlyL.refl _ _ | with_reducible assumption | with_reducible refine OnlyL.drew ?_ | with_reducible refine OnlyL.drewN ?_ _ | with_reducible refine OnlyL.setCell ?_ ?_ _ | with_reducible refine OnlyL.alloc ?_ _ | omega | (simp; done) | (simp; omega)))
              have hkr2 := hkr.trans (KeepR.ofBelow (lo := lo) (hi := hi) hol.all (Nat.le_trans hW.size hsz) (Nat.le_trans hhi hsz))
              have cS := cellH S
              obtain ⟨lS, lS1, lS2⟩ := ltH S
              have cX := cellH X
              obtain ⟨lX, lX1, lX2⟩ := ltH X
              have cB := cellH B
              obtain ⟨lB, lB1, lB2⟩ := ltH B
              have cTo := cellH To
              obtain ⟨lTo, lTo1, lTo2⟩ := ltH To
              have cWi := cellH Wi
              obtain ⟨lWi, lWi1, lWi2⟩ := ltH Wi
              have cPa := cellH Pa
              obtain ⟨lPa, lPa1, lPa2⟩ := ltH Pa
              gi_wp2_with fail
              refine ⟨(fun hd => by cases hd), hR.mono ?_⟩
              rintro e W3 (⟨rfl, hJ3, hk3⟩ | ⟨rfl, hJx3⟩)
              · gi_wp2_with fail
                refine bodyPost_ret (results_none rfl _ _ _) rfl ?_
                exact ⟨⟨_, rfl⟩, .inl ⟨_, HF.out, hJ3⟩⟩
              · gi_wp2_with fail
                refine bodyPost_ret (results_none rfl _ _ _) rfl ?_
                exact ⟨⟨_, rfl⟩, .inr ⟨_, ⟨[], by rw [List.append_nil]; exact HF.out⟩, hJx3⟩⟩
          · have HF : Hid (pre ++ [none] = bearsO x gs) := by have h := hpre.out; rw [HD.out, bears_none HLE.out (by unfold partO; rw [HT.out, if_neg hs])] at h; exact h
            have hen := fun w => eql_nil (E 5) w
            gi_upto_region 9 with fail
            have hw6 : Below w.heap.size w (w2.alloc (.cells #[.int .i64 0, .int .i64 0] 24)) := by (repeat' (first | with_reducible exact Below.refl _ _ | with_reducible assumption | with_reducible refine Below.drew ?_ | with_reducible refine below_drewN ?_ _ | with_reducible refine Below.setCell ?_ ?_ _ | with_reducible refine Below.alloc ?_ ?_ _ | omega | (simp; done) | (simp; omega)))
            have ho6 : OnlyL [] wr (w2.alloc (.cells #[.int .i64 0, .int .i64 0] 24)) := by (repeat' (first | with_reducible exact OnlyL.refl _ _ | with_reducible assumption | with_reducible refine OnlyL.drew ?_ | with_reducible refine OnlyL.drewN ?_ _ | with_reducible refine OnlyL.setCell ?_ ?_ _ | with_reducible refine OnlyL.alloc ?_ _ | omega | (simp; done) | (simp; omega)))
            replace S : Hid ((w2.alloc (.cells #[.int .i64 0, .int .i64 0] 24)).heap[Bs]? = some (.cells #[.slice (some ⟨g, off, none⟩) gs.length c] 22 (0, 0))) := (blk_old S.out)
            replace X : Hid ((w2.alloc (.cells #[.int .i64 0, .int .i64 0] 24)).heap[Bx]? = some (.cells #[.int .i64 x.num, .int .i64 x.den] 24 (0, 0))) := (blk_old X.out)
            replace B : Hid ((w2.alloc (.cells #[.int .i64 0, .int .i64 0] 24)).heap[wr.heap.size]? = some (.cells #[.int .i64 b.1.num, .int .i64 b.1.den, .int .i64 b.2.num, .int .i64 b.2.den] 31 (0, 0))) := (blk_old B.out)
            replace To : Hid ((w2.alloc (.cells #[.int .i64 0, .int .i64 0] 24)).heap[w1.heap.size]? = some (.cells #[.int .i64 x.num, .int .i64 x.den] 24 (0, 0))) := (blk_old To.out)
            have Wi : Hid ((w2.alloc (.cells #[.int .i64 0, .int .i64 0] 24)).heap[w2.heap.size]? = some (.cells #[.int .i64 0, .int .i64 0] 24 (0, 0))) := (blk_new rfl)
            clear cS lS lS1 lS2 cX lX lX1 lX2 cB lB lB1 lB2 cTo lTo lTo1 lTo2
            generalize (w2.alloc (.cells #[.int .i64 0, .int .i64 0] 24)) = w6 at *
            have z6 := hw6.size
            have cS := cellH S
            obtain ⟨lS, lS1, lS2⟩ := ltH S
            have cX := cellH X
            obtain ⟨lX, lX1, lX2⟩ := ltH X
            have cB := cellH B
            obtain ⟨lB, lB1, lB2⟩ := ltH B
            have cTo := cellH To
            obtain ⟨lTo, lTo1, lTo2⟩ := ltH To
            have cWi := cellH Wi
            obtain ⟨lWi, lWi1, lWi2⟩ := ltH Wi
            clear cS lS lS1 lS2 cX lX lX1 lX2 cB lB lB1 lB2 cTo lTo lTo1 lTo2 cWi lWi lWi1 lWi2
            obtain ⟨fn, tmps, assign, body, hy, hR⟩ := hY pre none w6 (abide hJ hJs (OnlyL.all (by (repeat' (first | with_reducible exact OnlyL.refl _ _ | with_reducible assumption | with_reducible refine OnlyL.drew ?_ | with_reducible refine OnlyL.drewN ?_ _ | with_reducible refine OnlyL.setCell ?_ ?_ _ | with_reducible refine OnlyL.alloc ?_ _ | omega | (simp; done) | (simp; omega)))))) (by rw [HPL.out]; exact hlt)
            dsimp only [encO] at hy
            have hol : OnlyL [] wr w6 := by (repeat' (first | with_reducible exact OnlyL.refl _ _ | with_reducible assumption | with_reducible refine OnlyL.drew ?_ | with_reducible refine OnlyL.drewN ?_ _ | with_reducible refine OnlyL.setCell ?_ ?_ _ | with_reducible refine OnlyL.alloc ?_ _ | omega | (simp; done) | (simp; omega)))
            have hkr2 := hkr.trans (KeepR.ofBelow (lo := lo) (hi := hi) hol.all (Nat.le_trans hW.size hsz) (Nat.le_trans hhi hsz))
            have cS := cellH S
            obtain ⟨lS, lS1, lS2⟩ := ltH S
            have cX := cellH X
            obtain ⟨lX, lX1, lX2⟩ := ltH X
            have cB := cellH B
            obtain ⟨lB, lB1, lB2⟩ := ltH B
            have cTo := cellH To
            obtain ⟨lTo, lTo1, lTo2⟩ := ltH To
            have cWi := cellH Wi
            obtain ⟨lWi, lWi1, lWi2⟩ := ltH Wi
            gi_wp2_with fail
            refine ⟨(fun hd => by cases hd), hR.mono ?_⟩
            rintro e W3 (⟨rfl, hJ3, hk3⟩ | ⟨rfl, hJx3⟩)
            · gi_wp2_with fail
              refine bodyPost_ret (results_none rfl _ _ _) rfl ?_
              exact ⟨⟨_, rfl⟩, .inl ⟨_, HF.out, hJ3⟩⟩
            · gi_wp2_with fail
              refine bodyPost_ret (results_none rfl _ _ _) rfl ?_
              exact ⟨⟨_, rfl⟩, .inr ⟨_, ⟨[], by rw [List.append_nil]; exact HF.out⟩, hJx3⟩⟩
    · obtain rfl : k = gs.length := by omega
      have HF : Hid (pre = bearsO x gs) := by have h := hpre.out; rw [List.drop_length] at h; show _ = _; rw [← h]; exact (List.append_nil _).symm
      gi_wp2_with fail
      go_end0
      exact ⟨⟨_, rfl⟩, .inl ⟨_, HF.out, hJs⟩⟩

theorem bears_stops (gs : List (Rat × Rat)) (x : Rat) (A : Option Addr) (c : Nat) (E : Nat → Addr) (w : World) (hx : Good x) (hg : ∀ b ∈ gs, GoodB b) (hm : gs.length ≤ 32)
    (hl : RowAt encR 4 w w.heap.size A (gs.map bR)) (hE : Env LC E w) (n lo Bs Bx hi : Nat) (hBs : lo ≤ Bs ∧ Bs < hi) (hBx : lo ≤ Bx ∧ Bx < hi) (W0 : World) (hW0 : Below w.heap.size w W0) (hhi : hi ≤ W0.heap.size)
    (h1 : Hid (W0.heap[Bs]? = some (.cells #[.slice A gs.length c] 22 (0, 0)))) (h2 : Hid (W0.heap[Bx]? = some (.cells #[.int .i64 x.num, .int .i64 x.den] 24 (0, 0)))) :
    SeqStopsK Fence.wide n Tryd.prog 52 #[.pointer (some ⟨Bs, 0, none⟩), .pointer (some ⟨Bx, 0, none⟩)] (encO E) (KeepR w.heap.size lo hi) (fun ys => ys = bearsO x gs) (fun pre => pre <+: bearsO x gs) gs.length W0 := fun l J Jx W hW hJ _ hY h0 =>
  bears1_in gs x A c E w hx hg hm hl hE n l lo Bs Bx hi hBs hBx J Jx W hJ hY (hW0.trans (hW.mono hW0.size)) (Nat.le_trans hhi hW.size) ((hW.block _ (Nat.lt_of_lt_of_le hBs.2 hhi)).trans h1.out) ((hW.block _ (Nat.lt_of_lt_of_le hBx.2 hhi)).trans h2.out) h0

set_option maxHeartbeats 1000000 in
theorem bears_any (A : Option Addr) (n c : Nat) (x d : Int) (w : World) : Calls Tryd.prog 33 #[.slice A n c, .agg #[.int .i64 x, .int .i64 d]] w fun e w' => e = .returned (.func (.func 52) #[] #[.pointer (some ⟨w.heap.size, 0, none⟩), .pointer (some ⟨w.heap.size + 1, 0, none⟩)]) ∧ w' = (w.alloc (.cells #[.slice A n c] 22)).alloc (.cells #[.int .i64 x, .int .i64 d] 24) := by
  go_enter Tryd.func33, Tryd.ntmps33
  go_wp2
  go_ret
  exact ⟨rfl, rfl⟩

end Go.Proofs.YtmankldedhgdiaaDoor
