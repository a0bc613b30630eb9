/- Steps: a map of functions; the walk. -/
import Derived.Maps.OwnOps
import Derived.Test.YtcbglkkmblmbnaaDoorIndexF
namespace Go.Proofs.YtcbglkkmblmbnaaDoor
open Go.RowKit Go.Maps Go.WideMaps

/-- an element of a map, as it stands -/
def heldE (v : Value) : Option (DataW Value × List MemPlace) := some (.held v, [])

theorem wpList_insert_held {P : Program} (w : World) {ops : Array Oper} {rest : List Oper} {o : Oper} {a : Act} {Q : Exit → Act → World → Prop}
    (hg : o.guard = none) (m x v : Operand) (t : TypeId) (hop : o.op = Op.insert t m x v)
    (k e : TypeId) (K : Keyed P k) (ht : P.underlying t = some (.map k e)) (b n : Nat) (D : DataW Value)
    (hm : a.eval m = .map (some b)) (hown : w.ownsMap P k heldE b n D) (hn : n < maxLen) (key val : Value) (kl : Lit) (hx : a.eval x = key) (hv : a.eval v = val) (hkey : keyOf P k key = some kl)
    (hK : ∀ w', w'.ownsMap P k heldE b (n + 1) (D.put kl (.held val)) → w.grownBy w' (some b) → wpList P ops Q rest (a.put o.dst undef) w') :
    wpList P ops Q (o :: rest) a w := by
  refine wpList_plain hg fun K' hK' => ?_
  obtain ⟨w', hrun, r1, r2⟩ := hown.update K ht hn hkey (show heldE val = some (.held val, []) from rfl)
  unfold Oper.wp
  simp [execOp, hop, hm, hx, hv, hrun, Result.andThen]
  exact hK' _ _ (hK w' r1 r2)

theorem wpList_lookup_held {P : Program} (w : World) {ops : Array Oper} {rest : List Oper} {o : Oper} {a : Act} {Q : Exit → Act → World → Prop}
    (hg : o.guard = none) (m x : Operand) (t : TypeId) (hop : o.op = Op.lookup t m x false)
    (k e : TypeId) (K : Keyed P k) (ht : P.underlying t = some (.map k e)) {z : Value} (hz : (zeroValue e).run P w = .ok z w) (b n : Nat) (D : DataW Value)
    (hm : a.eval m = .map (some b)) (hown : w.ownsMap P k heldE b n D) (key : Value) (kl : Lit) (hx : a.eval x = key) (hkey : keyOf P k key = some kl) (v : Value) (hat : D.atKey kl (.held z) = .held v)
    (hK : wpList P ops Q rest (a.put o.dst v) w) :
    wpList P ops Q (o :: rest) a w := by
  refine wpList_plain hg fun K' hK' => ?_
  obtain ⟨v', ps, hrun, hv⟩ := hown.lookup K ht hz (show heldE z = some (.held z, []) from rfl) hkey
  rw [hat] at hv
  have hv' : v' = v := by
    unfold heldE at hv
    simp only [Option.some.injEq, Prod.mk.injEq, DataW.held.injEq] at hv
    exact hv.1
  subst hv'
  unfold Oper.wp
  simp [execOp, hop, hm, hx, hrun, Result.andThen]
  exact hK' _ _ hK

theorem ownsMap_below {P : Program} {k : TypeId} {b n : Nat} {D : DataW Value} {w w' : World} (h : w.ownsMap P k heldE b n D) (hb : Below w.heap.size w w') : w'.ownsMap P k heldE b n D :=
  h.kept (row := none) ⟨hb.os, hb.tape, hb.output, hb.size, fun i hi _ => hb.block i hi⟩ (by simp)

theorem keyS : Keyed Tryd.prog 9 := string_keyed Tryd.underlying9

theorem zeroF (w : World) : (zeroValue 84).run Tryd.prog w = .ok .nilFunc w := by kernel_rfl

theorem held_inj {v v' : Value} {ps : List MemPlace} (hv : heldE v' = some (.held v, ps)) : v' = v := by
  unfold heldE at hv
  simp only [Option.some.injEq, Prod.mk.injEq, DataW.held.injEq] at hv
  exact hv.1

def byF (g : Nat) : Value := .func (.func 70) #[] #[.pointer (some ⟨g, 0, none⟩)]

theorem by_any (m : Int) (w : World) : Calls Tryd.prog 69 #[.int .i64 m] w fun e w' => (∃ g, e = .returned (.func (.func 70) #[] #[.pointer (some ⟨g, 0, none⟩)]) ∧ Hid (w'.heap[g]? = some (.cells #[.int .i64 m] 3 (0, 0))) ∧ w.heap.size ≤ g) ∧ Below w.heap.size w w' := by
  go_enter Tryd.func69, Tryd.ntmps69
  go_wp2
  go_ret
  exact ⟨⟨_, rfl, newH, Nat.le_refl _⟩, by (repeat' (first | with_reducible exact Below.refl _ _ | with_reducible assumption | with_reducible refine Below.drew ?_ | with_reducible refine below_drewN ?_ _ | with_reducible refine Below.setCell ?_ ?_ _ | with_reducible refine Below.alloc ?_ ?_ _ | omega | (simp; done) | (simp; omega)))⟩

def sB (l : List UInt8) : Value := .string ⟨⟨l⟩⟩

theorem keyL (l : List UInt8) (h : l.length ≤ 100) : keyOf Tryd.prog 9 (.string ⟨⟨l⟩⟩) = some (.string l) := keyOf_string_mk Tryd.underlying9 (s := ⟨⟨l⟩⟩) (by show l.length ≤ maxLen; unfold maxLen; omega)

set_option maxRecDepth 10000 in
set_option maxHeartbeats 4000000 in
theorem steps_down (w : World) : Calls Tryd.prog 49 #[.string ⟨#[100, 111, 119, 110]⟩] w fun e w' => (∃ g, e = .returned (.func (.func 70) #[] #[.pointer (some ⟨g, 0, none⟩)]) ∧ Hid (w'.heap[g]? = some (.cells #[.int .i64 1] 3 (0, 0)))) ∧ Below w.heap.size w w' := by
  have hmm := @run_makeMap Tryd.prog
  go_enter Tryd.func49, Tryd.ntmps49
  have own0 : (w.alloc (.map #[] 0)).ownsMap Tryd.prog 9 heldE w.heap.size 0 (.map []) := World.ownsMap_made _ _ _ _
  have hv0 : Below w.heap.size w (w.alloc (.map #[] 0)) := by (repeat' (first | with_reducible exact Below.refl _ _ | with_reducible assumption | with_reducible refine Below.drew ?_ | with_reducible refine below_drewN ?_ _ | with_reducible refine Below.setCell ?_ ?_ _ | with_reducible refine Below.alloc ?_ ?_ _ | omega | (simp; done) | (simp; omega)))
  have zz0 : w.heap.size ≤ (w.alloc (.map #[] 0)).heap.size := hv0.size
  go_wp2_with fail
  refine (by_any 1 _).mono ?_
  rintro e w1 ⟨⟨g1, rfl, G1, hge1⟩, hb1⟩
  have hw1 := stepH hv0 hb1
  have ow1 := ownsMap_below own0 hb1
  have lG1 := lt_of_H G1
  have kg1 : w.heap.size < g1 := by have h := hge1; simp at h; omega
  have z1 := hw1.size
  clear own0 hb1 hv0 zz0
  obtain ⟨v1, hrun1, own1, hgrow1⟩ := ow1.update keyS Tryd.underlying101 (by unfold maxLen; omega) (key := .string ⟨#[100, 111, 119, 110]⟩) (val := byF g1) (keyL [100, 111, 119, 110] (by decide)) (show heldE (byF g1) = some (.held (byF g1), []) from rfl)
  unfold byF at hrun1
  have hv1 := hw1.grown hgrow1 z1 (fun k h => by cases h; exact Nat.le_refl _)
  have zz1 := hv1.size
  replace G1 := Lib.hid ((hgrow1.block g1 lG1 (by simp; omega)).trans G1.out)
  clear hw1 z1 ow1 hgrow1 lG1
  go_wp2_with fail
  clear hrun1
  refine (by_any 2 _).mono ?_
  rintro e w2 ⟨⟨g2, rfl, G2, hge2⟩, hb2⟩
  have hw2 := stepH hv1 hb2
  have ow2 := ownsMap_below own1 hb2
  replace G1 := keepH hb2 G1.out
  have lG1 := lt_of_H G1
  clear G2
  have z2 := hw2.size
  clear own1 hb2 hv1 zz1
  obtain ⟨v2, hrun2, own2, hgrow2⟩ := ow2.update keyS Tryd.underlying101 (by unfold maxLen; omega) (key := .string ⟨#[117, 112]⟩) (val := byF g2) (keyL [117, 112] (by decide)) (show heldE (byF g2) = some (.held (byF g2), []) from rfl)
  unfold byF at hrun2
  have hv2 := hw2.grown hgrow2 z2 (fun k h => by cases h; exact Nat.le_refl _)
  have zz2 := hv2.size
  replace G1 := Lib.hid ((hgrow2.block g1 lG1 (by simp; omega)).trans G1.out)
  clear hw2 z2 ow2 hgrow2 lG1
  go_wp2_with fail
  clear hrun2
  refine (by_any 3 _).mono ?_
  rintro e w3 ⟨⟨g3, rfl, G3, hge3⟩, hb3⟩
  have hw3 := stepH hv2 hb3
  have ow3 := ownsMap_below own2 hb3
  replace G1 := keepH hb3 G1.out
  have lG1 := lt_of_H G1
  clear G3
  have z3 := hw3.size
  clear own2 hb3 hv2 zz2
  obtain ⟨v3, hrun3, own3, hgrow3⟩ := ow3.update keyS Tryd.underlying101 (by unfold maxLen; omega) (key := .string ⟨#[102, 108, 111, 111, 114]⟩) (val := byF g3) (keyL [102, 108, 111, 111, 114] (by decide)) (show heldE (byF g3) = some (.held (byF g3), []) from rfl)
  unfold byF at hrun3
  have hv3 := hw3.grown hgrow3 z3 (fun k h => by cases h; exact Nat.le_refl _)
  have zz3 := hv3.size
  replace G1 := Lib.hid ((hgrow3.block g1 lG1 (by simp; omega)).trans G1.out)
  clear hw3 z3 ow3 hgrow3 lG1
  go_wp2_with fail
  clear hrun3
  refine (by_any 4 _).mono ?_
  rintro e w4 ⟨⟨g4, rfl, G4, hge4⟩, hb4⟩
  have hw4 := stepH hv3 hb4
  have ow4 := ownsMap_below own3 hb4
  replace G1 := keepH hb4 G1.out
  have lG1 := lt_of_H G1
  clear G4
  have z4 := hw4.size
  clear own3 hb4 hv3 zz3
  obtain ⟨v4, hrun4, own4, hgrow4⟩ := ow4.update keyS Tryd.underlying101 (by unfold maxLen; omega) (key := .string ⟨#[99, 101, 105, 108]⟩) (val := byF g4) (keyL [99, 101, 105, 108] (by decide)) (show heldE (byF g4) = some (.held (byF g4), []) from rfl)
  unfold byF at hrun4
  have hv4 := hw4.grown hgrow4 z4 (fun k h => by cases h; exact Nat.le_refl _)
  have zz4 := hv4.size
  replace G1 := Lib.hid ((hgrow4.block g1 lG1 (by simp; omega)).trans G1.out)
  clear hw4 z4 ow4 hgrow4 lG1
  go_wp2_with fail
  clear hrun4
  refine (by_any 5 _).mono ?_
  rintro e w5 ⟨⟨g5, rfl, G5, hge5⟩, hb5⟩
  have hw5 := stepH hv4 hb5
  have ow5 := ownsMap_below own4 hb5
  replace G1 := keepH hb5 G1.out
  have lG1 := lt_of_H G1
  clear G5
  have z5 := hw5.size
  clear own4 hb5 hv4 zz4
  obtain ⟨v5, hrun5, own5, hgrow5⟩ := ow5.update keyS Tryd.underlying101 (by unfold maxLen; omega) (key := .string ⟨#[104, 97, 108, 102, 32, 117, 112]⟩) (val := byF g5) (keyL [104, 97, 108, 102, 32, 117, 112] (by decide)) (show heldE (byF g5) = some (.held (byF g5), []) from rfl)
  unfold byF at hrun5
  have hv5 := hw5.grown hgrow5 z5 (fun k h => by cases h; exact Nat.le_refl _)
  have zz5 := hv5.size
  replace G1 := Lib.hid ((hgrow5.block g1 lG1 (by simp; omega)).trans G1.out)
  clear hw5 z5 ow5 hgrow5 lG1
  go_wp2_with fail
  clear hrun5
  refine (by_any 6 _).mono ?_
  rintro e w6 ⟨⟨g6, rfl, G6, hge6⟩, hb6⟩
  have hw6 := stepH hv5 hb6
  have ow6 := ownsMap_below own5 hb6
  replace G1 := keepH hb6 G1.out
  have lG1 := lt_of_H G1
  clear G6
  have z6 := hw6.size
  clear own5 hb6 hv5 zz5
  obtain ⟨v6, hrun6, own6, hgrow6⟩ := ow6.update keyS Tryd.underlying101 (by unfold maxLen; omega) (key := .string ⟨#[104, 97, 108, 102, 32, 101, 118, 101, 110]⟩) (val := byF g6) (keyL [104, 97, 108, 102, 32, 101, 118, 101, 110] (by decide)) (show heldE (byF g6) = some (.held (byF g6), []) from rfl)
  unfold byF at hrun6
  have hv6 := hw6.grown hgrow6 z6 (fun k h => by cases h; exact Nat.le_refl _)
  have zz6 := hv6.size
  replace G1 := Lib.hid ((hgrow6.block g1 lG1 (by simp; omega)).trans G1.out)
  clear hw6 z6 ow6 hgrow6 lG1
  skip
  skip
  obtain ⟨vl, ps, hrunl, hvl⟩ := own6.lookup keyS Tryd.underlying101 (zeroF v6) (show heldE .nilFunc = some (.held .nilFunc, []) from rfl) (key := .string ⟨#[100, 111, 119, 110]⟩) (keyL [100, 111, 119, 110] (by decide))
  have hat : (((((((DataW.map []).put (.string [100, 111, 119, 110]) (.held (byF g1))).put (.string [117, 112]) (.held (byF g2))).put (.string [102, 108, 111, 111, 114]) (.held (byF g3))).put (.string [99, 101, 105, 108]) (.held (byF g4))).put (.string [104, 97, 108, 102, 32, 117, 112]) (.held (byF g5))).put (.string [104, 97, 108, 102, 32, 101, 118, 101, 110]) (.held (byF g6))).atKey (.string [100, 111, 119, 110]) (.held .nilFunc) = .held (byF g1) := rfl
  rw [hat] at hvl
  obtain rfl : vl = byF g1 := held_inj hvl
  clear hat hvl
  unfold byF at hrunl
  go_wp2_with fail
  go_ret
  exact ⟨⟨g1, rfl, G1⟩, hv6⟩

set_option maxRecDepth 10000 in
set_option maxHeartbeats 4000000 in
theorem steps_no (w : World) : Calls Tryd.prog 49 #[.string ⟨#[110, 111]⟩] w fun e w' => e = .returned .nilFunc ∧ Below w.heap.size w w' := by
  have hmm := @run_makeMap Tryd.prog
  go_enter Tryd.func49, Tryd.ntmps49
  have own0 : (w.alloc (.map #[] 0)).ownsMap Tryd.prog 9 heldE w.heap.size 0 (.map []) := World.ownsMap_made _ _ _ _
  have hv0 : Below w.heap.size w (w.alloc (.map #[] 0)) := by (repeat' (first | with_reducible exact Below.refl _ _ | with_reducible assumption | with_reducible refine Below.drew ?_ | with_reducible refine below_drewN ?_ _ | with_reducible refine Below.setCell ?_ ?_ _ | with_reducible refine Below.alloc ?_ ?_ _ | omega | (simp; done) | (simp; omega)))
  have zz0 : w.heap.size ≤ (w.alloc (.map #[] 0)).heap.size := hv0.size
  go_wp2_with fail
  refine (by_any 1 _).mono ?_
  rintro e w1 ⟨⟨g1, rfl, G1, hge1⟩, hb1⟩
  have hw1 := stepH hv0 hb1
  have ow1 := ownsMap_below own0 hb1
  have lG1 := lt_of_H G1
  have kg1 : w.heap.size < g1 := by have h := hge1; simp at h; omega
  have z1 := hw1.size
  clear own0 hb1 hv0 zz0
  obtain ⟨v1, hrun1, own1, hgrow1⟩ := ow1.update keyS Tryd.underlying101 (by unfold maxLen; omega) (key := .string ⟨#[100, 111, 119, 110]⟩) (val := byF g1) (keyL [100, 111, 119, 110] (by decide)) (show heldE (byF g1) = some (.held (byF g1), []) from rfl)
  unfold byF at hrun1
  have hv1 := hw1.grown hgrow1 z1 (fun k h => by cases h; exact Nat.le_refl _)
  have zz1 := hv1.size
  replace G1 := Lib.hid ((hgrow1.block g1 lG1 (by simp; omega)).trans G1.out)
  clear hw1 z1 ow1 hgrow1 lG1
  go_wp2_with fail
  clear hrun1
  refine (by_any 2 _).mono ?_
  rintro e w2 ⟨⟨g2, rfl, G2, hge2⟩, hb2⟩
  have hw2 := stepH hv1 hb2
  have ow2 := ownsMap_below own1 hb2
  replace G1 := keepH hb2 G1.out
  have lG1 := lt_of_H G1
  clear G2
  have z2 := hw2.size
  clear own1 hb2 hv1 zz1
  obtain ⟨v2, hrun2, own2, hgrow2⟩ := ow2.update keyS Tryd.underlying101 (by unfold maxLen; omega) (key := .string ⟨#[117, 112]⟩) (val := byF g2) (keyL [117, 112] (by decide)) (show heldE (byF g2) = some (.held (byF g2), []) from rfl)
  unfold byF at hrun2
  have hv2 := hw2.grown hgrow2 z2 (fun k h => by cases h; exact Nat.le_refl _)
  have zz2 := hv2.size
  replace G1 := Lib.hid ((hgrow2.block g1 lG1 (by simp; omega)).trans G1.out)
  clear hw2 z2 ow2 hgrow2 lG1
  go_wp2_with fail
  clear hrun2
  refine (by_any 3 _).mono ?_
  rintro e w3 ⟨⟨g3, rfl, G3, hge3⟩, hb3⟩
  have hw3 := stepH hv2 hb3
  have ow3 := ownsMap_below own2 hb3
  replace G1 := keepH hb3 G1.out
  have lG1 := lt_of_H G1
  clear G3
  have z3 := hw3.size
  clear own2 hb3 hv2 zz2
  obtain ⟨v3, hrun3, own3, hgrow3⟩ := ow3.update keyS Tryd.underlying101 (by unfold maxLen; omega) (key := .string ⟨#[102, 108, 111, 111, 114]⟩) (val := byF g3) (keyL [102, 108, 111, 111, 114] (by decide)) (show heldE (byF g3) = some (.held (byF g3), []) from rfl)
  unfold byF at hrun3
  have hv3 := hw3.grown hgrow3 z3 (fun k h => by cases h; exact Nat.le_refl _)
  have zz3 := hv3.size
  replace G1 := Lib.hid ((hgrow3.block g1 lG1 (by simp; omega)).trans G1.out)
  clear hw3 z3 ow3 hgrow3 lG1
  go_wp2_with fail
  clear hrun3
  refine (by_any 4 _).mono ?_
  rintro e w4 ⟨⟨g4, rfl, G4, hge4⟩, hb4⟩
  have hw4 := stepH hv3 hb4
  have ow4 := ownsMap_below own3 hb4
  replace G1 := keepH hb4 G1.out
  have lG1 := lt_of_H G1
  clear G4
  have z4 := hw4.size
  clear own3 hb4 hv3 zz3
  obtain ⟨v4, hrun4, own4, hgrow4⟩ := ow4.update keyS Tryd.underlying101 (by unfold maxLen; omega) (key := .string ⟨#[99, 101, 105, 108]⟩) (val := byF g4) (keyL [99, 101, 105, 108] (by decide)) (show heldE (byF g4) = some (.held (byF g4), []) from rfl)
  unfold byF at hrun4
  have hv4 := hw4.grown hgrow4 z4 (fun k h => by cases h; exact Nat.le_refl _)
  have zz4 := hv4.size
  replace G1 := Lib.hid ((hgrow4.block g1 lG1 (by simp; omega)).trans G1.out)
  clear hw4 z4 ow4 hgrow4 lG1
  go_wp2_with fail
  clear hrun4
  refine (by_any 5 _).mono ?_
  rintro e w5 ⟨⟨g5, rfl, G5, hge5⟩, hb5⟩
  have hw5 := stepH hv4 hb5
  have ow5 := ownsMap_below own4 hb5
  replace G1 := keepH hb5 G1.out
  have lG1 := lt_of_H G1
  clear G5
  have z5 := hw5.size
  clear own4 hb5 hv4 zz4
  obtain ⟨v5, hrun5, own5, hgrow5⟩ := ow5.update keyS Tryd.underlying101 (by unfold maxLen; omega) (key := .string ⟨#[104, 97, 108, 102, 32, 117, 112]⟩) (val := byF g5) (keyL [104, 97, 108, 102, 32, 117, 112] (by decide)) (show heldE (byF g5) = some (.held (byF g5), []) from rfl)
  unfold byF at hrun5
  have hv5 := hw5.grown hgrow5 z5 (fun k h => by cases h; exact Nat.le_refl _)
  have zz5 := hv5.size
  replace G1 := Lib.hid ((hgrow5.block g1 lG1 (by simp; omega)).trans G1.out)
  clear hw5 z5 ow5 hgrow5 lG1
  go_wp2_with fail
  clear hrun5
  refine (by_any 6 _).mono ?_
  rintro e w6 ⟨⟨g6, rfl, G6, hge6⟩, hb6⟩
  have hw6 := stepH hv5 hb6
  have ow6 := ownsMap_below own5 hb6
  replace G1 := keepH hb6 G1.out
  have lG1 := lt_of_H G1
  clear G6
  have z6 := hw6.size
  clear own5 hb6 hv5 zz5
  obtain ⟨v6, hrun6, own6, hgrow6⟩ := ow6.update keyS Tryd.underlying101 (by unfold maxLen; omega) (key := .string ⟨#[104, 97, 108, 102, 32, 101, 118, 101, 110]⟩) (val := byF g6) (keyL [104, 97, 108, 102, 32, 101, 118, 101, 110] (by decide)) (show heldE (byF g6) = some (.held (byF g6), []) from rfl)
  unfold byF at hrun6
  have hv6 := hw6.grown hgrow6 z6 (fun k h => by cases h; exact Nat.le_refl _)
  have zz6 := hv6.size
  replace G1 := Lib.hid ((hgrow6.block g1 lG1 (by simp; omega)).trans G1.out)
  clear hw6 z6 ow6 hgrow6 lG1
  skip
  skip
  obtain ⟨vl, ps, hrunl, hvl⟩ := own6.lookup keyS Tryd.underlying101 (zeroF v6) (show heldE .nilFunc = some (.held .nilFunc, []) from rfl) (key := .string ⟨#[110, 111]⟩) (keyL [110, 111] (by decide))
  have hat : (((((((DataW.map []).put (.string [100, 111, 119, 110]) (.held (byF g1))).put (.string [117, 112]) (.held (byF g2))).put (.string [102, 108, 111, 111, 114]) (.held (byF g3))).put (.string [99, 101, 105, 108]) (.held (byF g4))).put (.string [104, 97, 108, 102, 32, 117, 112]) (.held (byF g5))).put (.string [104, 97, 108, 102, 32, 101, 118, 101, 110]) (.held (byF g6))).atKey (.string [110, 111]) (.held .nilFunc) = .held (.nilFunc) := rfl
  rw [hat] at hvl
  obtain rfl : vl = .nilFunc := held_inj hvl
  clear hat hvl
  go_wp2_with fail
  go_ret
  exact ⟨rfl, hv6⟩


end Go.Proofs.YtcbglkkmblmbnaaDoor
