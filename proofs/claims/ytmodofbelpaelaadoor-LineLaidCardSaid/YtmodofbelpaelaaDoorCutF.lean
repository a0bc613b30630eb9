/- Cut, Where, Set: walks. -/
import Derived.Test.YtmodofbelpaelaaDoorCutE
import Derived.Test.YtmodofbelpaelaaDoorDayG
import Derived.Test.YtmodofbelpaelaaDoorLineF
namespace Go.Proofs.YtmodofbelpaelaaDoor
open Go.RowKit

theorem infoPb : (Tryd.prog.info? 162).map (fun i => (i.zero, i.size, i.bytes)) = some (some (.agg #[.int .i64 0, .int .i64 0, .bool false]), 3, 24) := by kernel_rfl

set_option maxRecDepth 10000 in
set_option maxHeartbeats 4000000 in
theorem marks_any (r : List (Pc Unit)) (A : Option Addr) (c : Nat) (w : World) (hl : RowAt encU 2 w w.heap.size A r) (hm : r.length ≤ 1000000) (hA : A = none → c = 0) :
    Calls Tryd.prog 83 #[.agg #[.slice A r.length c]] w fun e w' => (∃ A' c', e = .returned (.agg #[.slice A' r.length c']) ∧ RowAt encB 3 w' w'.heap.size A' r ∧ (A' = none → c' = 0) ∧ (∀ a, A' = some a → w.heap.size ≤ a.block)) ∧ Below w.heap.size w w' := by
  obtain ⟨inf0, hi, jz0, jz1, jz2⟩ := info_parts infoPb
  have HSP := Lib.hid (fun w' (h : Below w.heap.size w w') => spansD_any r A c w' ((hl.below h (Nat.le_refl _)).more h.size) (by omega) hA)
  clear hl hA
  go_enter Tryd.func83, Tryd.ntmps83
  go_wp2_with fail
  refine (HSP.out _ (by (repeat' (first | with_reducible exact Below.refl _ _ | with_reducible assumption | with_reducible refine Below.drew ?_ | with_reducible refine below_drewN ?_ _ | with_reducible refine Below.setCell ?_ ?_ _ | with_reducible refine Below.alloc ?_ ?_ _ | omega | (simp; done) | (simp; omega))))).mono ?_
  rintro e w1 ⟨v, rfl, hown1, hb1⟩
  have hw1 : Below w.heap.size w w1 := stepH (by (repeat' (first | with_reducible exact Below.refl _ _ | with_reducible assumption | with_reducible refine Below.drew ?_ | with_reducible refine below_drewN ?_ _ | with_reducible refine Below.setCell ?_ ?_ _ | with_reducible refine Below.alloc ?_ ?_ _ | omega | (simp; done) | (simp; omega)))) hb1
  have R := keepH hb1 (g := w.heap.size + 1) (blk_new (by simp))
  obtain ⟨A1, c1, rfl, hrow1, _, _⟩ := own_line (fun x _ => encU_len x) hown1
  have HROW := Lib.hid hrow1
  have z1 := hw1.size
  have lR := lt_of_H R
  clear hb1 hown1 hrow1
  go_wp2_with fail
  go_loopw [3, 9] (fun v i wr => ∃ k : Nat, k ≤ r.length ∧ i = .int .i64 k ∧ Own encB 3 162 w1.heap.size wr v (r.take k) ∧ Below w1.heap.size w1 wr) (fun _ i _ => r.length - (intOf i).toNat)
  case atStart => exact ⟨0, Nat.zero_le _, rfl, Own.nil, Below.refl _ _⟩
  case round =>
    obtain ⟨k, hk, rfl, hown, hwr⟩ := hrel
    have zr := hwr.size
    have hw2 : Below w.heap.size w wr := hw1.trans (hwr.mono z1)
    have HO := Lib.hid hown
    have hlen : (r.take k).length = k := by rw [List.length_take]; omega
    clear hown
    by_cases hlt : k < r.length
    · obtain ⟨p, hp⟩ : ∃ p, r[k]? = some p := ⟨r[k], List.getElem?_eq_getElem hlt⟩
      obtain ⟨g, off, rfl, hg, k0, k1⟩ := cells2 (HROW.out.below hwr (Nat.le_refl _)) hp
      have hlt2 : (k : Int) < (r.length : Int) := by omega
      have HP := Lib.hid hp
      clear hp
      go_wp2_with (at_builtin; go_must (refine wpList_append_own _ rfl (.tmp 13) (.tmp 16) 126 rfl w1.heap.size 162 inf0 _ 3 24 Tryd.underlying126 hi jz0 jz1 jz2 rfl (by decide) _ _ _ rfl (own_below HO.out (by (repeat' (first | with_reducible exact Below.refl _ _ | with_reducible assumption | with_reducible refine Below.drew ?_ | with_reducible refine below_drewN ?_ _ | with_reducible refine Below.setCell ?_ ?_ _ | with_reducible refine Below.alloc ?_ ?_ _ | omega | (simp; done) | (simp; omega))))) ⟨wr.heap.size + 1, 0, none⟩ 1 1 [.int .i64 p.f, .int .i64 p.t, .bool true] rfl rfl (World.news_of_block (cs := #[.int .i64 p.f, .int .i64 p.t, .bool true]) (blk_new (by simp))) (by simp [Value.oneCell']) (by rw [hlen]; unfold maxLen; omega) (by rw [hlen]; omega) (by simp; omega) ?_); intro v' w9 hown9 hgrow9 _)
      go_roundw
      case rel =>
        refine ⟨k + 1, by omega, by go_num, ?_, Below.grown (by (repeat' (first | with_reducible exact Below.refl _ _ | with_reducible assumption | with_reducible refine Below.drew ?_ | with_reducible refine below_drewN ?_ _ | with_reducible refine Below.setCell ?_ ?_ _ | with_reducible refine Below.alloc ?_ ?_ _ | omega | (simp; done) | (simp; omega)))) hgrow9 (by simp; omega) (fun g hg => (HO.out.lt g hg).1)⟩
        rw [take_snoc HP.out]
        exact Own.snoc hown9 rfl rfl
      case measure => simp [intOf]; omega
    · obtain rfl : k = r.length := by omega
      have R2 : Hid (wr.heap[w.heap.size + 1]? = some (.cells #[.slice none 0 0] 128 (0, 0))) := (hwr.block _ lR).trans R.out
      have cR := cellH R2
      have fR := frozH R2
      have hO : Own encB 3 162 w1.heap.size wr u3 r := by have h := HO.out; rw [List.take_length] at h; exact h
      obtain ⟨A2, c2, rfl, hr2, hA2, hA3⟩ := own_line (fun x _ => encB_len x) hO
      have HR2 := Lib.hid hr2
      clear hO HO hr2 hlen
      go_wp2_with fail
      have cR3 := cellH (Lib.hid (setBox R2.out (.slice A2 r.length c2)))
      refine bodyPost_ret (v := .agg #[.slice A2 r.length c2]) (by simp [results, Tryd.results83, go_sem, cR3]) rfl ⟨⟨A2, c2, rfl, ?_, hA2, fun a ha => by have := hA3 a ha; omega⟩, by (repeat' (first | with_reducible exact Below.refl _ _ | with_reducible assumption | with_reducible refine Below.drew ?_ | with_reducible refine below_drewN ?_ _ | with_reducible refine Below.setCell ?_ ?_ _ | with_reducible refine Below.alloc ?_ ?_ _ | omega | (simp; done) | (simp; omega)))⟩
      exact rowKeepL HR2.out (by simp) (fun a ha => Below.heap_setCell _ _ _ _ (by have h := hA3 a ha; dsimp only; omega))

/-- a value, on the days of a set -/
def cutF (x : Option Int) (y : Option Unit) : Option Int := match y with | some _ => x | none => none
theorem cut1_any (x : Option Int) (y : Option Unit) (w : World) : Calls Tryd.prog 84 #[.int .i64 (vN x), .bool (vB6 x), .bool y.isSome, .bool y.isSome] w fun e w' => joinAns (cutF x y) e ∧ Below w.heap.size w w' := by
  cases x with
  | some v =>
    cases y with
    | some u =>
      show Calls Tryd.prog 84 #[.int .i64 v, .bool true, .bool true, .bool true] w _
      go_enter Tryd.func84, Tryd.ntmps84
      go_wp2_with fail
      go_ret2
      exact ⟨⟨v, rfl, fun v' h => by cases h; rfl⟩, by (repeat' (first | with_reducible exact Below.refl _ _ | with_reducible assumption | with_reducible refine Below.drew ?_ | with_reducible refine below_drewN ?_ _ | with_reducible refine Below.setCell ?_ ?_ _ | with_reducible refine Below.alloc ?_ ?_ _ | omega | (simp; done) | (simp; omega)))⟩
    | none =>
      show Calls Tryd.prog 84 #[.int .i64 v, .bool true, .bool false, .bool false] w _
      go_enter Tryd.func84, Tryd.ntmps84
      go_wp2_with fail
      go_ret2
      exact ⟨⟨v, rfl, fun v' h => by cases h⟩, by (repeat' (first | with_reducible exact Below.refl _ _ | with_reducible assumption | with_reducible refine Below.drew ?_ | with_reducible refine below_drewN ?_ _ | with_reducible refine Below.setCell ?_ ?_ _ | with_reducible refine Below.alloc ?_ ?_ _ | omega | (simp; done) | (simp; omega)))⟩
  | none =>
    have e : joinAns (cutF none y) = joinAns none := by cases y <;> rfl
    rw [e]
    show Calls Tryd.prog 84 #[.int .i64 0, .bool false, .bool y.isSome, .bool y.isSome] w _
    go_enter Tryd.func84, Tryd.ntmps84
    go_wp2_with fail
    go_ret2
    exact ⟨⟨0, rfl, fun v' h => by cases h⟩, by (repeat' (first | with_reducible exact Below.refl _ _ | with_reducible assumption | with_reducible refine Below.drew ?_ | with_reducible refine below_drewN ?_ _ | with_reducible refine Below.setCell ?_ ?_ _ | with_reducible refine Below.alloc ?_ ?_ _ | omega | (simp; done) | (simp; omega)))⟩

set_option maxRecDepth 10000 in
set_option maxHeartbeats 8000000 in
theorem cut_any (l : List (Pc Int)) (m : List (Pc Unit)) (A B : Option Addr) (c d : Nat) (w : World) (hl : RowAt encP 3 w w.heap.size A l) (hm : RowAt encU 2 w w.heap.size B m) (h1 : l.length ≤ 1000) (h2 : m.length ≤ 1000) (hB : B = none → d = 0) (rl : Rise 0 l) (ul : UpTo MD l) (rm : Rise 0 m) (um : UpTo MD m) :
    Calls Tryd.prog 35 #[.agg #[.slice A l.length c], .agg #[.slice B m.length d]] w fun e w' => (∃ A' c' r, e = .returned (.agg #[.slice A' r.length c']) ∧ RowAt encP 3 w' w'.heap.size A' r ∧ (A' = none → c' = 0) ∧ (∀ a, A' = some a → w.heap.size ≤ a.block) ∧ Canon MD r ∧ ∀ n, valL r n = cutF (valL l n) (valL m n)) ∧ Below w.heap.size w w' := by
  have HL := Lib.hid (fun w' (h : Below w.heap.size w w') => ((hl.below h (Nat.le_refl _)).more h.size : RowAt encP 3 w' w'.heap.size A l))
  have HMK := Lib.hid (fun w' (h : Below w.heap.size w w') => marks_any m B d w' ((hm.below h (Nat.le_refl _)).more h.size) (by omega) hB)
  have HSP := Lib.hid (joinU_spec cutF (cutsU_days l m) (by decide) rl rm ul um)
  have HRL := Lib.hid rl
  have HRM := Lib.hid rm
  have HUL := Lib.hid ul
  have HUM := Lib.hid um
  clear hl hm hB rl rm ul um
  go_enter Tryd.func35, Tryd.ntmps35
  go_wp2_with fail
  have R0 : Hid ((((w.alloc (.cells #[.slice A l.length c] 62)).alloc (.cells #[.slice B m.length d] 67)).alloc (.cells #[.slice none 0 0] 62)).heap[w.heap.size + 1 + 1]? = some (.cells #[.slice none 0 0] 62 (0, 0))) := blk_new (by simp)
  have B0 : Hid ((((w.alloc (.cells #[.slice A l.length c] 62)).alloc (.cells #[.slice B m.length d] 67)).alloc (.cells #[.slice none 0 0] 62)).heap[w.heap.size + 1]? = some (.cells #[.slice B m.length d] 67 (0, 0))) := blk_old (blk_new (by simp))
  have A0 : Hid ((((w.alloc (.cells #[.slice A l.length c] 62)).alloc (.cells #[.slice B m.length d] 67)).alloc (.cells #[.slice none 0 0] 62)).heap[w.heap.size]? = some (.cells #[.slice A l.length c] 62 (0, 0))) := blk_old (blk_old (blk_new (by simp)))
  have hw0 : Below w.heap.size w (((w.alloc (.cells #[.slice A l.length c] 62)).alloc (.cells #[.slice B m.length d] 67)).alloc (.cells #[.slice none 0 0] 62)) := by (repeat' (first | with_reducible exact Below.refl _ _ | with_reducible assumption | with_reducible refine Below.drew ?_ | with_reducible refine below_drewN ?_ _ | with_reducible refine Below.setCell ?_ ?_ _ | with_reducible refine Below.alloc ?_ ?_ _ | omega | (simp; done) | (simp; omega)))
  have hz0 : (((w.alloc (.cells #[.slice A l.length c] 62)).alloc (.cells #[.slice B m.length d] 67)).alloc (.cells #[.slice none 0 0] 62)).heap.size = w.heap.size + 3 := by simp
  generalize (((w.alloc (.cells #[.slice A l.length c] 62)).alloc (.cells #[.slice B m.length d] 67)).alloc (.cells #[.slice none 0 0] 62)) = w0 at *
  have x0 : w0.cell? ⟨w.heap.size, 0, none⟩ = some (.slice A l.length c) := cellH A0 0
  have x1 : w0.cell? ⟨w.heap.size + 1, 0, none⟩ = some (.slice B m.length d) := cellH B0 0
  have hlB := lt_of_H B0
  have hlR := lt_of_H R0
  clear A0 B0
  go_region_held_law (fun w' => w'.cell? ⟨w.heap.size, 0, none⟩ = some (.slice A l.length c) ∧ w'.cell? ⟨w.heap.size + 1, 0, none⟩ = some (.slice B m.length d)) (first | with_reducible exact ⟨x0, x1⟩ | with_reducible exact ⟨cell_set x0 (by dsimp only; omega), cell_set x1 (by dsimp only; omega)⟩ | go_keep)
    (first
      | (go_at_call 83; refine (HMK.out _ (by (repeat' (first | with_reducible exact Below.refl _ _ | with_reducible assumption | with_reducible refine Below.drew ?_ | with_reducible refine below_drewN ?_ _ | with_reducible refine Below.setCell ?_ ?_ _ | with_reducible refine Below.alloc ?_ ?_ _ | omega | (simp; done) | (simp; omega))))).mono ?_; rintro e w5 ⟨⟨A5, c5, rfl, hr5, hA5, hB5⟩, hb5⟩; have hw5 : Below w.heap.size w w5 := stepH (by (repeat' (first | with_reducible exact Below.refl _ _ | with_reducible assumption | with_reducible refine Below.drew ?_ | with_reducible refine below_drewN ?_ _ | with_reducible refine Below.setCell ?_ ?_ _ | with_reducible refine Below.alloc ?_ ?_ _ | omega | (simp; done) | (simp; omega)))) hb5; have z5 : w0.heap.size ≤ w5.heap.size := hb5.size; have HR5 := Lib.hid hr5; replace x0 := cellOf hb5 (by first | exact x0 | exact cell_drew x0); replace x1 := cellOf hb5 (by first | exact x1 | exact cell_drew x1); replace R0 := keepH hb5 (by first | with_reducible exact R0.out | with_reducible exact drew_old R0.out); clear hb5 hr5)
      | (go_at_call 82; refine (joinB_any l m A A5 c c5 84 #[] cutF _ (HL.out _ hw5) HR5.out (by omega) (by omega) HRL.out HRM.out (enters_of Tryd.func84 (by kernel_rfl) rfl) (fun x y W _ => cut1_any x y W)).mono ?_; rintro e w6 ⟨⟨A6, c6, r6, rfl, hr6, hA6, hB6, hq6⟩, hb6⟩; have hw6 : Below w.heap.size w w6 := stepH (by (repeat' (first | with_reducible exact Below.refl _ _ | with_reducible assumption | with_reducible refine Below.drew ?_ | with_reducible refine below_drewN ?_ _ | with_reducible refine Below.setCell ?_ ?_ _ | with_reducible refine Below.alloc ?_ ?_ _ | omega | (simp; done) | (simp; omega)))) hb6; replace x0 := cellOf hb6 (by first | exact x0 | exact cell_drew x0); replace x1 := cellOf hb6 (by first | exact x1 | exact cell_drew x1); replace R0 := keepH hb6 (by first | with_reducible exact R0.out | with_reducible exact drew_old R0.out); have cR := cellH R0; have fR := frozH R0; have HR6 := Lib.hid hr6; have HQ6 := Lib.hid hq6; have hl6 := lt_of_H R0; clear hb6 hr6 hq6))
  go_wp2_with fail
  have cR2 := cellH (Lib.hid (setBox R0.out (.slice A6 r6.length c6)))
  refine bodyPost_ret (v := .agg #[.slice A6 r6.length c6]) (by simp [results, Tryd.results35, go_sem, cR2]) rfl ⟨⟨A6, c6, r6, rfl, ?_, hA6, fun a ha => by have h := hB6 a ha; omega, by rw [HQ6.out]; exact HSP.out.1, fun n => ?_⟩, by (repeat' (first | with_reducible exact Below.refl _ _ | with_reducible assumption | with_reducible refine Below.drew ?_ | with_reducible refine below_drewN ?_ _ | with_reducible refine Below.setCell ?_ ?_ _ | with_reducible refine Below.alloc ?_ ?_ _ | omega | (simp; done) | (simp; omega)))⟩
  · exact rowKeepL HR6.out (by simp) (fun a ha => Below.heap_setCell _ _ _ _ (by have h := hB6 a ha; dsimp only; omega))
  · rw [HQ6.out, HSP.out.2]
    by_cases hn : 0 ≤ n ∧ n < MD
    · rw [if_pos hn]
    · rw [if_neg hn]
      have e : valL l n = none := by
        by_cases h0 : n < 0
        · exact HRL.out.none h0
        · exact HUL.out.none (by omega)
      rw [e]
      cases valL m n <;> rfl

/-- a row of spans lies in no box that holds a slice -/
theorem rowU_set {w : World} {B g : Nat} {A a : Option Addr} {n c : Nat} {r : List (Pc Unit)} {t : TypeId} {u : Value} (h : RowAt encU 2 w B A r) (hb : w.heap[g]? = some (.cells #[.slice a n c] t (0, 0))) : RowAt encU 2 (w.setCell ⟨g, 0, none⟩ u) B A r := by
  intro k x hx
  obtain ⟨b, off, e, hlt, hc⟩ := h k x hx
  refine ⟨b, off, e, hlt, fun j v hj => ?_⟩
  have h1 := hc j v hj
  by_cases hbg : b = g
  · subst hbg
    rw [cell_of_row w b _ _ t (0, 0) hb] at h1
    have hv : (∃ i, v = .int .i64 i) := by
      have hm := List.mem_of_getElem? hj
      simp only [encU, List.mem_cons, List.not_mem_nil, or_false] at hm
      rcases hm with rfl | rfl
      · exact ⟨_, rfl⟩
      · exact ⟨_, rfl⟩
    obtain ⟨i, rfl⟩ := hv
    have h0 : off + k * 2 + j = 0 := by
      have := (Array.getElem?_eq_some_iff.1 h1).1
      simpa using this
    rw [h0] at h1
    simp at h1
  · rw [World.cell?_of_block (Below.heap_setCell w ⟨g, 0, none⟩ u b hbg)]
    exact h1

/-- the spans of the pieces whose value has a property -/
def selL (g : Int → Bool) (l : List (Pc Int)) : List (Pc Unit) := (l.filter (fun p => g p.v)).map (fun p => ⟨p.f, p.t, ()⟩)
theorem selL_snoc {g : Int → Bool} {l : List (Pc Int)} {k : Nat} {p : Pc Int} (hp : l[k]? = some p) : selL g (l.take (k + 1)) = selL g (l.take k) ++ (if g p.v = true then [⟨p.f, p.t, ()⟩] else []) := by
  unfold selL
  rw [take_snoc hp, List.filter_append, List.map_append]
  by_cases h : g p.v = true
  · rw [if_pos h]; simp [h]
  · rw [if_neg h]; simp [h]
theorem selL_len (g : Int → Bool) (l : List (Pc Int)) : (selL g l).length ≤ l.length := by
  unfold selL; rw [List.length_map]; exact List.length_filter_le _ _
theorem selL_valid {g : Int → Bool} {l : List (Pc Int)} (hr : Rise 0 l) (hu : UpTo MD l) : ∀ p ∈ selL g l, ValidS MD p := by
  intro p hp
  obtain ⟨q, hq, rfl⟩ := List.mem_map.1 hp
  have hm := (List.mem_filter.1 hq).1
  exact ⟨(hr.mem hm).1, (hr.mem hm).2, hu q hm⟩

set_option maxRecDepth 10000 in
set_option maxHeartbeats 8000000 in
theorem where_any (l : List (Pc Int)) (A : Option Addr) (c : Nat) (gf : Nat) (cb : Array Value) (g : Int → Bool) (w : World) (hl : RowAt encP 3 w w.heap.size A l) (hm : l.length ≤ 100000) (rl : Rise 0 l) (ul : UpTo MD l)
    (eg : ∀ args w, (callFunc gf args).run Tryd.prog w = .ok (.enter gf args) w)
    (hf : ∀ (x : Int) (W : World), Below w.heap.size w W → Calls Tryd.prog gf (#[.int .i64 x] ++ cb) W fun e w' => e = .returned (.bool (g x)) ∧ Below W.heap.size W w') :
    Calls Tryd.prog 42 #[.agg #[.slice A l.length c], .func (.func gf) #[] cb] w fun e w' => (∃ A' c' r, e = .returned (.agg #[.slice A' r.length c']) ∧ RowAt encU 2 w' w'.heap.size A' r ∧ (A' = none → c' = 0) ∧ SetOf MD (selL g l) r) ∧ Below w.heap.size w w' := by
  obtain ⟨inf0, hi, jz0, jz1, jz2⟩ := info_parts infoSp
  have HL := Lib.hid hl
  have HF := Lib.hid hf
  have HV := Lib.hid (selL_valid (g := g) rl ul)
  clear hl hf rl ul
  go_enter Tryd.func42, Tryd.ntmps42
  go_wp2_with fail
  have R0 : Hid (((w.alloc (.cells #[.slice A l.length c] 62)).alloc (.cells #[.slice none 0 0] 67)).heap[w.heap.size + 1]? = some (.cells #[.slice none 0 0] 67 (0, 0))) := blk_new (by simp)
  have hw0 : Below w.heap.size w ((w.alloc (.cells #[.slice A l.length c] 62)).alloc (.cells #[.slice none 0 0] 67)) := by (repeat' (first | with_reducible exact Below.refl _ _ | with_reducible assumption | with_reducible refine Below.drew ?_ | with_reducible refine below_drewN ?_ _ | with_reducible refine Below.setCell ?_ ?_ _ | with_reducible refine Below.alloc ?_ ?_ _ | omega | (simp; done) | (simp; omega)))
  have hz0 : ((w.alloc (.cells #[.slice A l.length c] 62)).alloc (.cells #[.slice none 0 0] 67)).heap.size = w.heap.size + 2 := by simp
  generalize ((w.alloc (.cells #[.slice A l.length c] 62)).alloc (.cells #[.slice none 0 0] 67)) = w0 at *
  go_loopw [5, 13] (fun v i wr => ∃ (k : Nat) (out : List (Pc Unit)), k ≤ l.length ∧ out.length ≤ k ∧ i = .int .i64 k ∧ Own encU 2 91 w0.heap.size wr v out ∧ Hid (out = selL g (l.take k)) ∧ Below w0.heap.size w0 wr) (fun _ i _ => l.length - (intOf i).toNat)
  case atStart => exact ⟨0, [], Nat.zero_le _, Nat.le_refl _, rfl, Own.nil, rfl, Below.refl _ _⟩
  case round =>
    obtain ⟨k, out, hk, ho, rfl, hown, hJ, hwr⟩ := hrel
    have zr := hwr.size
    have hw1 : Below w.heap.size w wr := hw0.trans (hwr.mono (by omega))
    have HO := Lib.hid hown
    clear hown
    by_cases hlt : k < l.length
    · obtain ⟨p, hp⟩ : ∃ p, l[k]? = some p := ⟨l[k], List.getElem?_eq_getElem hlt⟩
      obtain ⟨ga, off, rfl, hg, k0, k1, k2⟩ := cells3 (HL.out.below hw1 (Nat.le_refl _)) hp
      have hlt2 : (k : Int) < (l.length : Int) := by omega
      have HSN := Lib.hid (selL_snoc (g := g) hp)
      clear hp
      cases hgp : g p.v with
      | true =>
        have HR := HSN.out
        rw [if_pos hgp] at HR
        replace HSN := Lib.hid HR
        have HC := Lib.hid (fun (W : World) (h : Below w.heap.size w W) => (show Calls Tryd.prog gf (#[.int .i64 p.v] ++ cb) W fun e w' => e = .returned (.bool true) ∧ Below W.heap.size W w' from hgp ▸ HF.out p.v W h))
        clear HR hgp
        go_wp2_with (first | (go_at_fn gf; go_must (refine (HC.out _ (by (repeat' (first | with_reducible exact Below.refl _ _ | with_reducible assumption | with_reducible refine Below.drew ?_ | with_reducible refine below_drewN ?_ _ | with_reducible refine Below.setCell ?_ ?_ _ | with_reducible refine Below.alloc ?_ ?_ _ | omega | (simp; done) | (simp; omega))))).mono ?_); rintro e w3 ⟨rfl, hb3⟩; have hw3 : Below w.heap.size w w3 := stepH (by (repeat' (first | with_reducible exact Below.refl _ _ | with_reducible assumption | with_reducible refine Below.drew ?_ | with_reducible refine below_drewN ?_ _ | with_reducible refine Below.setCell ?_ ?_ _ | with_reducible refine Below.alloc ?_ ?_ _ | omega | (simp; done) | (simp; omega)))) hb3; have hv3 : Below w0.heap.size w0 w3 := stepH (by (repeat' (first | with_reducible exact Below.refl _ _ | with_reducible assumption | with_reducible refine Below.drew ?_ | with_reducible refine below_drewN ?_ _ | with_reducible refine Below.setCell ?_ ?_ _ | with_reducible refine Below.alloc ?_ ?_ _ | omega | (simp; done) | (simp; omega)))) hb3; have PB := keepH hb3 (g := wr.heap.size) (blk_new rfl); have cPB := cellH PB; have z3 := hv3.size; have HO3 := Lib.hid (own_below HO.out (w' := w3) (((Below.refl _ _).alloc (Nat.le_refl _) _).trans (hb3.mono (by simp)))); have lPB := lt_of_H PB) | (at_builtin; go_must (refine wpList_append_own _ rfl (.tmp 21) (.tmp 24) 59 rfl w0.heap.size 91 inf0 _ 2 16 Tryd.underlying59 hi jz0 jz1 jz2 rfl (by decide) _ out.length _ rfl (own_below HO3.out (by (repeat' (first | with_reducible exact Below.refl _ _ | with_reducible assumption | with_reducible refine Below.drew ?_ | with_reducible refine below_drewN ?_ _ | with_reducible refine Below.setCell ?_ ?_ _ | with_reducible refine Below.alloc ?_ ?_ _ | omega | (simp; done) | (simp; omega))))) ⟨w3.heap.size, 0, none⟩ 1 1 [.int .i64 p.f, .int .i64 p.t] rfl rfl (World.news_of_block (cs := #[.int .i64 p.f, .int .i64 p.t]) (blk_new (by simp))) (by simp [Value.oneCell']) (by unfold maxLen; omega) (by omega) (by simp; omega) ?_); intro v' w9 hown9 hgrow9 _))
        go_roundw
        case rel => exact ⟨k + 1, out ++ [⟨p.f, p.t, ()⟩], by omega, (by simp only [List.length_append, List.length_cons, List.length_nil]; omega), by go_num, Own.snoc hown9 rfl rfl, (by show _ = _; rw [hJ.out, HSN.out]), Below.grown (by (repeat' (first | with_reducible exact Below.refl _ _ | with_reducible assumption | with_reducible refine Below.drew ?_ | with_reducible refine below_drewN ?_ _ | with_reducible refine Below.setCell ?_ ?_ _ | with_reducible refine Below.alloc ?_ ?_ _ | omega | (simp; done) | (simp; omega)))) hgrow9 (by simp; omega) (fun g hg => (HO3.out.lt g hg).1)⟩
        case measure => simp [intOf]; omega
      | false =>
        have HR := HSN.out
        rw [if_neg (by rw [hgp]; decide), List.append_nil] at HR
        replace HSN := Lib.hid HR
        have HC := Lib.hid (fun (W : World) (h : Below w.heap.size w W) => (show Calls Tryd.prog gf (#[.int .i64 p.v] ++ cb) W fun e w' => e = .returned (.bool false) ∧ Below W.heap.size W w' from hgp ▸ HF.out p.v W h))
        clear HR hgp
        go_wp2_with (go_at_fn gf; go_must (refine (HC.out _ (by (repeat' (first | with_reducible exact Below.refl _ _ | with_reducible assumption | with_reducible refine Below.drew ?_ | with_reducible refine below_drewN ?_ _ | with_reducible refine Below.setCell ?_ ?_ _ | with_reducible refine Below.alloc ?_ ?_ _ | omega | (simp; done) | (simp; omega))))).mono ?_); rintro e w3 ⟨rfl, hb3⟩; have hv3 : Below w0.heap.size w0 w3 := stepH (by (repeat' (first | with_reducible exact Below.refl _ _ | with_reducible assumption | with_reducible refine Below.drew ?_ | with_reducible refine below_drewN ?_ _ | with_reducible refine Below.setCell ?_ ?_ _ | with_reducible refine Below.alloc ?_ ?_ _ | omega | (simp; done) | (simp; omega)))) hb3; have z3 := hv3.size; have HO3 := Lib.hid (own_below HO.out (w' := w3) (((Below.refl _ _).alloc (Nat.le_refl _) _).trans (hb3.mono (by simp)))))
        go_roundw
        case rel => exact ⟨k + 1, out, by omega, by omega, by go_num, HO3.out, (by show _ = _; rw [hJ.out, HSN.out]), hv3⟩
        case measure => simp [intOf]; omega
    · obtain rfl : k = l.length := by omega
      have HE : Hid (out = selL g l) := by show _ = _; rw [hJ.out, List.take_length]
      obtain ⟨A2, c2, rfl, hr2, _, _⟩ := own_line (fun x _ => encU_len x) HO.out
      have HR2 := Lib.hid hr2
      have R1 : Hid (wr.heap[w.heap.size + 1]? = some (.cells #[.slice none 0 0] 67 (0, 0))) := (hwr.block _ (by omega)).trans R0.out
      have HVO : Hid (∀ p ∈ out, ValidS MD p) := by show ∀ p ∈ out, _; rw [HE.out]; exact HV.out
      clear hr2 HO hJ
      go_wp2_with fail
      refine (makeS_ok out A2 c2 _ HR2.out (by omega) HVO.out).mono ?_
      rintro e w6 ⟨⟨A6, c6, r6, rfl, hr6, hA6, hset6⟩, hb6⟩
      have hw6 : Below w.heap.size w w6 := stepH hw1 hb6
      replace R1 := keepH hb6 R1.out
      have cR := cellH R1
      have fR := frozH R1
      have HR6 := Lib.hid hr6
      have HS6 : Hid (SetOf MD (selL g l) r6) := by show SetOf _ _ _; rw [← HE.out]; exact hset6
      have hl6 := lt_of_H R1
      clear hb6 hr6 hset6
      go_wp2_with fail
      have cR2 := cellH (Lib.hid (blk_old (o := .cells #[.slice A6 r6.length c6] 67) (setBox R1.out (.slice A6 r6.length c6))))
      refine bodyPost_ret (v := .agg #[.slice A6 r6.length c6]) (by simp [results, Tryd.results42, go_sem, cR2]) rfl ⟨⟨A6, c6, r6, rfl, ?_, hA6, HS6.out⟩, by (repeat' (first | with_reducible exact Below.refl _ _ | with_reducible assumption | with_reducible refine Below.drew ?_ | with_reducible refine below_drewN ?_ _ | with_reducible refine Below.setCell ?_ ?_ _ | with_reducible refine Below.alloc ?_ ?_ _ | omega | (simp; done) | (simp; omega)))⟩
      have h := rowU_set (u := .slice A6 r6.length c6) HR6.out R1.out
      exact ((h.below (B' := w6.heap.size) ((Below.refl _ _).alloc (by simp) _) (Nat.le_refl _)).more (by simp))

/-- all days that have a value -/
theorem set1_any (x : Int) (w : World) : Calls Tryd.prog 87 #[.int .i64 x] w fun e w' => e = .returned (.bool true) ∧ Below w.heap.size w w' := by
  go_enter Tryd.func87, Tryd.ntmps87
  go_wp2_with fail
  go_ret
  exact ⟨rfl, by (repeat' (first | with_reducible exact Below.refl _ _ | with_reducible assumption | with_reducible refine Below.drew ?_ | with_reducible refine below_drewN ?_ _ | with_reducible refine Below.setCell ?_ ?_ _ | with_reducible refine Below.alloc ?_ ?_ _ | omega | (simp; done) | (simp; omega)))⟩
set_option maxRecDepth 10000 in
theorem setL_any (l : List (Pc Int)) (A : Option Addr) (c : Nat) (w : World) (hl : RowAt encP 3 w w.heap.size A l) (hm : l.length ≤ 100000) (rl : Rise 0 l) (ul : UpTo MD l) :
    Calls Tryd.prog 39 #[.agg #[.slice A l.length c]] w fun e w' => (∃ A' c' r, e = .returned (.agg #[.slice A' r.length c']) ∧ RowAt encU 2 w' w'.heap.size A' r ∧ (A' = none → c' = 0) ∧ SetOf MD (selL (fun _ => true) l) r) ∧ Below w.heap.size w w' := by
  have HL := Lib.hid hl
  clear hl
  go_enter Tryd.func39, Tryd.ntmps39
  go_wp2_with fail
  refine (where_any l A c 87 #[] (fun _ => true) _ ((HL.out.below (by (repeat' (first | with_reducible exact Below.refl _ _ | with_reducible assumption | with_reducible refine Below.drew ?_ | with_reducible refine below_drewN ?_ _ | with_reducible refine Below.setCell ?_ ?_ _ | with_reducible refine Below.alloc ?_ ?_ _ | omega | (simp; done) | (simp; omega)))) (Nat.le_refl _)).more (by simp; omega)) hm rl ul (enters_of Tryd.func87 (by kernel_rfl) rfl) (fun x W _ => set1_any x W)).mono ?_
  rintro e w1 ⟨⟨A1, c1, r, rfl, hr, hA, hs⟩, hb1⟩
  have hw1 : Below w.heap.size w w1 := stepH (by (repeat' (first | with_reducible exact Below.refl _ _ | with_reducible assumption | with_reducible refine Below.drew ?_ | with_reducible refine below_drewN ?_ _ | with_reducible refine Below.setCell ?_ ?_ _ | with_reducible refine Below.alloc ?_ ?_ _ | omega | (simp; done) | (simp; omega)))) hb1
  have R := keepH hb1 (g := w.heap.size + 1) (blk_new (by simp))
  have cR := cellH R
  have fR := frozH R
  have lR := lt_of_H R
  have HR := Lib.hid hr
  have HS := Lib.hid hs
  clear hb1 hr hs
  go_wp2_with fail
  have cR2 := cellH (Lib.hid (setBox R.out (.slice A1 r.length c1)))
  refine bodyPost_ret (v := .agg #[.slice A1 r.length c1]) (by simp [results, Tryd.results39, go_sem, cR2]) rfl ⟨⟨A1, c1, r, rfl, ?_, hA, HS.out⟩, by (repeat' (first | with_reducible exact Below.refl _ _ | with_reducible assumption | with_reducible refine Below.drew ?_ | with_reducible refine below_drewN ?_ _ | with_reducible refine Below.setCell ?_ ?_ _ | with_reducible refine Below.alloc ?_ ?_ _ | omega | (simp; done) | (simp; omega)))⟩
  exact (rowU_set HR.out R.out).more (by simp)

end Go.Proofs.YtmodofbelpaelaaDoor
