/- The walks of FracField's helper calc: calls, one in the other, and whether one has answered an error. -/
import Derived.Deep.DeepCutAuto
import Derived.Test.YtbmkbhclkaopaaaDoorOrder
namespace Go.Proofs.YtbmkbhclkaopaaaDoor
open Go.RowKit

/-- only block g of what was there may have changed -/
def Only (g : Nat) (w w' : World) : Prop := w.grownBy w' (some g)
theorem Only.trans {g : Nat} {a b c : World} (h : Only g a b) (k : Only g b c) : Only g a c :=
  ⟨k.os.trans h.os, k.tape.trans h.tape, k.output.trans h.output, Nat.le_trans h.size k.size, fun i hi hne => (k.block i (Nat.lt_of_lt_of_le hi h.size) hne).trans (h.block i hi hne)⟩
theorem Only.of {g : Nat} {w w' : World} (h : Below w.heap.size w w') : Only g w w' := ⟨h.os, h.tape, h.output, h.size, fun i hi _ => h.block i hi⟩
theorem Only.below {g B : Nat} {w w' : World} (h : Only g w w') (hB : B ≤ g) (hs : B ≤ w.heap.size) : Below B w w' := ⟨h.os, h.tape, h.output, h.size, fun k hk => h.block k (by omega) (fun e => by injection e; omega)⟩
theorem Only.setCell {g i : Nat} {a w : World} (h : Only g a w) (u : Value) : Only g a (w.setCell ⟨g, i, none⟩ u) :=
  ⟨h.os, h.tape, h.output, by simpa [World.setCell] using h.size, fun k hk hne => (Below.heap_setCell w _ u k (fun e => hne (by rw [e]))).trans (h.block k hk hne)⟩
theorem Only.setFar {g : Nat} {a w : World} {p : Addr} (h : Only g a w) (hp : a.heap.size ≤ p.block) (u : Value) : Only g a (w.setCell p u) :=
  ⟨h.os, h.tape, h.output, by simpa [World.setCell] using h.size, fun k hk hne => (Below.heap_setCell w _ u k (by omega)).trans (h.block k hk hne)⟩
theorem Only.keep {g k : Nat} {w w' : World} {x : Obj} (h : Only g w w') (hx : Hid (w.heap[k]? = some x)) (hne : k ≠ g) : Hid (w'.heap[k]? = some x) :=
  (h.block k (lt_of_H hx) (fun e => hne (by injection e))).trans hx

/-- a fraction's two numbers -/
def FV (n d : Int) (q : Rat) : Prop := Good q ∧ n = q.num ∧ d = q.den

theorem set1 {w : World} {g i : Nat} {cs : Array Value} {t : TypeId} (h : w.heap[g]? = some (.cells cs t (0, 0))) (u : Value) : (w.setCell ⟨g, i, none⟩ u).heap[g]? = some (.cells (cs.setIfInBounds i u) t (0, 0)) := by
  simp [World.setCell, Array.getElem?_modify, h]

/-- what a call of calc leaves: block g alone has changed, its place i holds b -/
def Took (g i : Nat) (cs : Array Value) (t : TypeId) (b : Bool) (w w' : World) : Prop := Only g w w' ∧ Hid (w'.heap[g]? = some (.cells (cs.setIfInBounds i (.bool b)) t (0, 0)))

set_option maxHeartbeats 1000000 in
theorem took_nil (g i : Nat) (n d : Int) (b : Bool) (cs : Array Value) (t : TypeId) (w : World) (H : Hid (w.heap[g]? = some (.cells cs t (0, 0)))) (hi : cs[i]? = some (.bool b)) :
    Calls Tryd.prog 34 #[.pointer (some ⟨g, i, none⟩), .agg #[.int .i64 n, .int .i64 d], .nilIface] w fun e w' => e = .returned (.agg #[.int .i64 n, .int .i64 d]) ∧ Took g i cs t b w w' := by
  have hc : w.cell? ⟨g, i, none⟩ = some (.bool b) := (cellH H i).trans hi
  have hf := frozH H i
  have hlt := lt_of_H H
  clear hi
  cases b
  all_goals
    go_enter Tryd.func34, Tryd.ntmps34
    go_wp2
    refine bodyPost_ret (v := .agg #[.int .i64 n, .int .i64 d]) (by simp [results, Tryd.results34, go_sem]) rfl ⟨rfl, Only.trans (Only.setCell (Only.of (Below.refl _ _)) _) (Only.of (by (repeat (first | exact Below.refl _ _ | assumption | refine Below.drew ?_ | refine below_drewN ?_ _ | refine Below.setCell ?_ (by first | omega | (simp; done) | (simp; omega)) _ | refine Below.alloc ?_ (by first | omega | (simp; done) | (simp; omega)) _)))), blk_old (blk_old (set1 H.out _))⟩

set_option maxHeartbeats 1000000 in
theorem took_err (g i : Nat) (n d : Int) (b : Bool) (a : Addr) (cs : Array Value) (t : TypeId) (w : World) (H : Hid (w.heap[g]? = some (.cells cs t (0, 0)))) (hi : cs[i]? = some (.bool b)) :
    Calls Tryd.prog 34 #[.pointer (some ⟨g, i, none⟩), .agg #[.int .i64 n, .int .i64 d], .iface 62 (.pointer (some a))] w fun e w' => e = .returned (.agg #[.int .i64 n, .int .i64 d]) ∧ Took g i cs t true w w' := by
  have hc : w.cell? ⟨g, i, none⟩ = some (.bool b) := (cellH H i).trans hi
  have hf := frozH H i
  have hlt := lt_of_H H
  clear hi
  cases b
  all_goals
    go_enter Tryd.func34, Tryd.ntmps34
    go_wp2
    refine bodyPost_ret (v := .agg #[.int .i64 n, .int .i64 d]) (by simp [results, Tryd.results34, go_sem]) rfl ⟨rfl, Only.trans (Only.setCell (Only.of (Below.refl _ _)) _) (Only.of (by (repeat (first | exact Below.refl _ _ | assumption | refine Below.drew ?_ | refine below_drewN ?_ _ | refine Below.setCell ?_ (by first | omega | (simp; done) | (simp; omega)) _ | refine Below.alloc ?_ (by first | omega | (simp; done) | (simp; omega)) _)))), blk_old (blk_old (set1 H.out _))⟩

/-- what a sum or a product of calc means: no error so far, then both are fractions and so is the result -/
def Means (f : Rat → Rat → Rat) (n1 d1 n2 d2 n d : Int) (b b' : Bool) : Prop := b' = false → b = false ∧ ∃ p q, FV n1 d1 p ∧ FV n2 d2 q ∧ FV n d (f p q)

/-- bounds of an int's two numbers -/
def I2 (n d : Int) : Prop := -9223372036854775808 ≤ n ∧ n ≤ 9223372036854775807 ∧ -9223372036854775808 ≤ d ∧ d ≤ 9223372036854775807
theorem I2.of {q : Rat} (h : Good q) : I2 q.num q.den := by obtain ⟨a, b, c, d⟩ := num_le h; unfold I2; omega
theorem resF_opI {f : Rat → Rat → Rat} {R : Rat → Rat → Except Nat Rat} (hR : ∀ p q, R p q = goodR (f p q)) {E : Nat → Addr} {n1 d1 n2 d2 n d : Int} {err : Value} (h : ResF E (opI R n1 d1 n2 d2) n d err) :
    (I2 n d ∧ err = .nilIface ∧ ∃ p q, FV n1 d1 p ∧ FV n2 d2 q ∧ FV n d (f p q)) ∨ (I2 n d ∧ ∃ a, err = .iface 62 (.pointer (some a))) := by
  have z : I2 0 0 := by unfold I2; omega
  by_cases hv : (validB n1 d1 && validB n2 d2) = true
  · obtain ⟨h1, h2⟩ := (Bool.and_eq_true _ _).mp hv
    obtain ⟨p, hp, rfl, rfl⟩ := good_of_validB h1
    obtain ⟨q, hq, rfl, rfl⟩ := good_of_validB h2
    rw [opI_good _ hp hq, hR] at h
    rcases resF_cases h with ⟨hg, h3, h4, h5⟩ | ⟨h3, h4, h5⟩
    · exact .inl ⟨by rw [h3, h4]; exact I2.of hg, h5, p, q, ⟨hp, rfl, rfl⟩, ⟨hq, rfl, rfl⟩, hg, h3, h4⟩
    · exact .inr ⟨by rw [h3, h4]; exact z, _, h5⟩
  · rw [opI_bad R (by simpa using hv)] at h
    obtain ⟨h3, h4, h5⟩ := h
    exact .inr ⟨by rw [h3, h4]; exact z, _, h5⟩

set_option maxHeartbeats 1000000 in
theorem calcAdd_any (g i : Nat) (n1 d1 n2 d2 : Int) (b : Bool) (cs : Array Value) (t : TypeId) (E : Nat → Addr) (w : World) (H : Hid (w.heap[g]? = some (.cells cs t (0, 0)))) (hi : Hid (cs[i]? = some (.bool b))) (h1 : I2 n1 d1) (h2 : I2 n2 d2) (hE : Env LF E w) :
    Calls Tryd.prog 22 #[.pointer (some ⟨g, i, none⟩), .agg #[.int .i64 n1, .int .i64 d1], .agg #[.int .i64 n2, .int .i64 d2]] w fun e w' => (∃ n d b', e = .returned (.agg #[.int .i64 n, .int .i64 d]) ∧ I2 n d ∧ Means (· + ·) n1 d1 n2 d2 n d b b' ∧ Took g i cs t b' w w') := by
  obtain ⟨a1, a2, a3, a4⟩ := h1
  obtain ⟨b1, b2, b3, b4⟩ := h2
  have hlt := lt_of_H H
  have HE := Lib.hid hE
  clear hE
  go_enter Tryd.func22, Tryd.ntmps22
  go_wp2_with fail
  refine (add_any n1 d1 n2 d2 E _ a1 a2 a3 a4 b1 b2 b3 b4 (HE.out.below (by (repeat (first | exact Below.refl _ _ | assumption | refine Below.drew ?_ | refine below_drewN ?_ _ | refine Below.setCell ?_ (by first | omega | (simp; done) | (simp; omega)) _ | refine Below.alloc ?_ (by first | omega | (simp; done) | (simp; omega)) _))))).mono ?_
  rintro e w1 ⟨⟨n, d, err, rfl, hr⟩, hb⟩
  have hw1 : Below w.heap.size w w1 := stepH (by (repeat (first | exact Below.refl _ _ | assumption | refine Below.drew ?_ | refine below_drewN ?_ _ | refine Below.setCell ?_ (by first | omega | (simp; done) | (simp; omega)) _ | refine Below.alloc ?_ (by first | omega | (simp; done) | (simp; omega)) _))) hb
  have R : Hid (w1.heap[w.heap.size + 1 + 1]? = some (.cells #[.int .i64 0, .int .i64 0] 23 (0, 0))) := keepH hb (blk_new (by simp))
  have H1 : Hid (w1.heap[g]? = some (.cells cs t (0, 0))) := keepH hw1 H
  have hne : w.heap.size + 1 + 1 ≠ g := by omega
  rcases resF_opI (f := (· + ·)) (fun _ _ => rfl) hr with ⟨hI, rfl, p, q, f1, f2, f3⟩ | ⟨hI, a, rfl⟩
  · have HM : Hid (Means (· + ·) n1 d1 n2 d2 n d b b) := fun hb => ⟨hb, p, q, f1, f2, f3⟩
    clear hr f1 f2 f3
    go_wp2_with fail
    refine (took_nil g i n d b cs t w1 H1 hi.out).mono ?_
    rintro e w2 ⟨rfl, ho, hk⟩
    have R2 := ho.keep R hne
    have cR := cellH R2
    have fR := frozH R2
    go_wp2_with fail
    have ho2 : Only g w w2 := (Only.of hw1).trans ho
    refine bodyPost_ret (v := .agg #[.int .i64 n, .int .i64 d]) (by simp [results, Tryd.results22, go_sem, cR]) rfl ⟨n, d, b, rfl, hI, HM, ?_, ?_⟩
    · exact (ho2.setFar (by simp; omega) _).setFar (by simp; omega) _
    · exact (setH2o hk (Ne.symm hne))
  · have HM : Hid (Means (· + ·) n1 d1 n2 d2 n d b true) := fun hb => by cases hb
    clear hr
    go_wp2_with fail
    refine (took_err g i n d b a cs t w1 H1 hi.out).mono ?_
    rintro e w2 ⟨rfl, ho, hk⟩
    have R2 := ho.keep R hne
    have cR := cellH R2
    have fR := frozH R2
    go_wp2_with fail
    have ho2 : Only g w w2 := (Only.of hw1).trans ho
    refine bodyPost_ret (v := .agg #[.int .i64 n, .int .i64 d]) (by simp [results, Tryd.results22, go_sem, cR]) rfl ⟨n, d, true, rfl, hI, HM, ?_, ?_⟩
    · exact (ho2.setFar (by simp; omega) _).setFar (by simp; omega) _
    · exact (setH2o hk (Ne.symm hne))

set_option maxHeartbeats 1000000 in
theorem calcMul_any (g i : Nat) (n1 d1 n2 d2 : Int) (b : Bool) (cs : Array Value) (t : TypeId) (E : Nat → Addr) (w : World) (H : Hid (w.heap[g]? = some (.cells cs t (0, 0)))) (hi : Hid (cs[i]? = some (.bool b))) (h1 : I2 n1 d1) (h2 : I2 n2 d2) (hE : Env LF E w) :
    Calls Tryd.prog 23 #[.pointer (some ⟨g, i, none⟩), .agg #[.int .i64 n1, .int .i64 d1], .agg #[.int .i64 n2, .int .i64 d2]] w fun e w' => (∃ n d b', e = .returned (.agg #[.int .i64 n, .int .i64 d]) ∧ I2 n d ∧ Means (· * ·) n1 d1 n2 d2 n d b b' ∧ Took g i cs t b' w w') := by
  obtain ⟨a1, a2, a3, a4⟩ := h1
  obtain ⟨b1, b2, b3, b4⟩ := h2
  have hlt := lt_of_H H
  have HE := Lib.hid hE
  clear hE
  go_enter Tryd.func23, Tryd.ntmps23
  go_wp2_with fail
  refine (mul_any n1 d1 n2 d2 E _ a1 a2 a3 a4 b1 b2 b3 b4 (HE.out.below (by (repeat (first | exact Below.refl _ _ | assumption | refine Below.drew ?_ | refine below_drewN ?_ _ | refine Below.setCell ?_ (by first | omega | (simp; done) | (simp; omega)) _ | refine Below.alloc ?_ (by first | omega | (simp; done) | (simp; omega)) _))))).mono ?_
  rintro e w1 ⟨⟨n, d, err, rfl, hr⟩, hb⟩
  have hw1 : Below w.heap.size w w1 := stepH (by (repeat (first | exact Below.refl _ _ | assumption | refine Below.drew ?_ | refine below_drewN ?_ _ | refine Below.setCell ?_ (by first | omega | (simp; done) | (simp; omega)) _ | refine Below.alloc ?_ (by first | omega | (simp; done) | (simp; omega)) _))) hb
  have R : Hid (w1.heap[w.heap.size + 1 + 1]? = some (.cells #[.int .i64 0, .int .i64 0] 23 (0, 0))) := keepH hb (blk_new (by simp))
  have H1 : Hid (w1.heap[g]? = some (.cells cs t (0, 0))) := keepH hw1 H
  have hne : w.heap.size + 1 + 1 ≠ g := by omega
  rcases resF_opI (f := (· * ·)) (fun _ _ => rfl) hr with ⟨hI, rfl, p, q, f1, f2, f3⟩ | ⟨hI, a, rfl⟩
  · have HM : Hid (Means (· * ·) n1 d1 n2 d2 n d b b) := fun hb => ⟨hb, p, q, f1, f2, f3⟩
    clear hr f1 f2 f3
    go_wp2_with fail
    refine (took_nil g i n d b cs t w1 H1 hi.out).mono ?_
    rintro e w2 ⟨rfl, ho, hk⟩
    have R2 := ho.keep R hne
    have cR := cellH R2
    have fR := frozH R2
    go_wp2_with fail
    have ho2 : Only g w w2 := (Only.of hw1).trans ho
    refine bodyPost_ret (v := .agg #[.int .i64 n, .int .i64 d]) (by simp [results, Tryd.results23, go_sem, cR]) rfl ⟨n, d, b, rfl, hI, HM, ?_, ?_⟩
    · exact (ho2.setFar (by simp; omega) _).setFar (by simp; omega) _
    · exact (setH2o hk (Ne.symm hne))
  · have HM : Hid (Means (· * ·) n1 d1 n2 d2 n d b true) := fun hb => by cases hb
    clear hr
    go_wp2_with fail
    refine (took_err g i n d b a cs t w1 H1 hi.out).mono ?_
    rintro e w2 ⟨rfl, ho, hk⟩
    have R2 := ho.keep R hne
    have cR := cellH R2
    have fR := frozH R2
    go_wp2_with fail
    have ho2 : Only g w w2 := (Only.of hw1).trans ho
    refine bodyPost_ret (v := .agg #[.int .i64 n, .int .i64 d]) (by simp [results, Tryd.results23, go_sem, cR]) rfl ⟨n, d, true, rfl, hI, HM, ?_, ?_⟩
    · exact (ho2.setFar (by simp; omega) _).setFar (by simp; omega) _
    · exact (setH2o hk (Ne.symm hne))

set_option maxHeartbeats 1000000 in
theorem agrees_any (g i j : Nat) (n1 d1 n2 d2 : Int) (b1 b2 : Bool) (cs : Array Value) (t : TypeId) (w : World) (H : Hid (w.heap[g]? = some (.cells cs t (0, 0)))) (h1 : Hid (cs[i]? = some (.bool b1))) (h2 : Hid (cs[j]? = some (.bool b2)))
    (he : b1 = false → b2 = false → n1 = n2 ∧ d1 = d2) :
    Calls Tryd.prog 21 #[.pointer (some ⟨g, i, none⟩), .agg #[.int .i64 n1, .int .i64 d1], .pointer (some ⟨g, j, none⟩), .agg #[.int .i64 n2, .int .i64 d2]] w fun e w' => e = .returned (.bool true) ∧ Below w.heap.size w w' := by
  have c1 : w.cell? ⟨g, i, none⟩ = some (.bool b1) := (cellH H i).trans h1.out
  have c2 : w.cell? ⟨g, j, none⟩ = some (.bool b2) := (cellH H j).trans h2.out
  have hlt := lt_of_H H
  cases b1
  · cases b2
    · obtain ⟨rfl, rfl⟩ := he rfl rfl
      clear he
      go_enter Tryd.func21, Tryd.ntmps21
      go_wp2_with fail
      refine (first_same _ _ _).mono ?_
      rintro e w1 ⟨rfl, hb⟩
      have hw1 : Below w.heap.size w w1 := stepH (by (repeat (first | exact Below.refl _ _ | assumption | refine Below.drew ?_ | refine below_drewN ?_ _ | refine Below.setCell ?_ (by first | omega | (simp; done) | (simp; omega)) _ | refine Below.alloc ?_ (by first | omega | (simp; done) | (simp; omega)) _))) hb
      go_wp2_with fail
      go_ret
      exact ⟨rfl, hw1⟩
    · clear he
      go_enter Tryd.func21, Tryd.ntmps21
      go_wp2_with fail
      go_ret
      exact ⟨rfl, by (repeat (first | exact Below.refl _ _ | assumption | refine Below.drew ?_ | refine below_drewN ?_ _ | refine Below.setCell ?_ (by first | omega | (simp; done) | (simp; omega)) _ | refine Below.alloc ?_ (by first | omega | (simp; done) | (simp; omega)) _))⟩
  · clear he
    go_enter Tryd.func21, Tryd.ntmps21
    go_wp2_with fail
    go_ret
    exact ⟨rfl, by (repeat (first | exact Below.refl _ _ | assumption | refine Below.drew ?_ | refine below_drewN ?_ _ | refine Below.setCell ?_ (by first | omega | (simp; done) | (simp; omega)) _ | refine Below.alloc ?_ (by first | omega | (simp; done) | (simp; omega)) _))⟩

end Go.Proofs.YtbmkbhclkaopaaaDoor
