/- Rows of changes compared: slices.Equal, Same: walks. -/
import Derived.Test.YtmoeoomlggjaaaaGreatDoorAmG
namespace Go.Proofs.YtmoeoomlggjaaaaGreatDoor
open Go.RowKit Go.Maps

/-- e is a bool that says p -/
def BoolIs (e : Ending) (p : Prop) : Prop := ∃ b, e = .returned (.bool b) ∧ (b = true ↔ p)
theorem bool_yes {p : Prop} (h : p) : BoolIs (.returned (.bool true)) p := ⟨true, rfl, by simp [h]⟩
theorem bool_no {p : Prop} (h : ¬ p) : BoolIs (.returned (.bool false)) p := ⟨false, rfl, by simp [h]⟩
def chEq (c e : Ch) : Bool := c.name.toList == e.name.toList && (c.clear == e.clear && (c.n == e.n && c.d == e.d))
theorem eqFracA (a b c d : Int) (k : Nat) (w : World) : (Op.equalIn (k + 2) 39 (.agg #[.int .i64 a, .int .i64 b]) (.agg #[.int .i64 c, .int .i64 d])).run Tryz.prog w = .ok (a == c && b == d) w := by
  have u3 := Tryz.underlying3
  have hS : Tryz.prog.underlying 39 = some (.struct (Tryz.prog.fieldsOf 39)) := by kernel_rfl
  rw [show (k + 2 : Nat) = (k + 1) + 1 from rfl, run_equalIn_agg w (k + 1) 39 _ _ hS (by kernel_rfl)]
  simp only [Program.fieldsOf, Tryz.underlying39]
  go_simp
  by_cases h1 : a = c <;> by_cases h2 : b = d <;> simp [h1, h2]
theorem eqChA (c e : Ch) (w : World) : (Op.equalIn 10000 41 (chV c) (chV e)).run Tryz.prog w = .ok (chEq c e) w := by
  have u3 := Tryz.underlying3
  have u4 := Tryz.underlying4
  have u9 := Tryz.underlying9
  have hS : Tryz.prog.underlying 41 = some (.struct (Tryz.prog.fieldsOf 41)) := by kernel_rfl
  unfold chV
  rw [show (10000 : Nat) = 9997 + 3 from rfl, show (9997 + 3 : Nat) = (9997 + 2) + 1 from rfl, run_equalIn_agg w (9997 + 2) 41 _ _ hS (by kernel_rfl)]
  simp only [Program.fieldsOf, Tryz.underlying41]
  have hF := eqFracA c.n c.d e.n e.d 9997
  go_simp
  unfold chEq
  by_cases h1 : c.name.toList = e.name.toList <;> by_cases h2 : c.clear = e.clear <;> by_cases h3 : c.n = e.n <;> by_cases h4 : c.d = e.d <;> simp [h1, h2, h3, h4]
theorem neCh {c e : Ch} {b : Bool} (h : (!chEq c e) = b) (w : World) : (binOp .neq 41 (.agg #[.string c.name, .bool c.clear, .int .i64 c.n, .int .i64 c.d]) (.agg #[.string e.name, .bool e.clear, .int .i64 e.n, .int .i64 e.d])).run Tryz.prog w = .ok (.bool b) w := by
  have := eqChA c e w
  unfold chV at this
  rw [run_neq_struct, this, ← h]
  rfl
theorem chEq_iff {c e : Ch} : chEq c e = true ↔ c = e := by
  unfold chEq
  cases c with | mk a1 a2 a3 a4 => cases e with | mk b1 b2 b3 b4 =>
  simp only [Bool.and_eq_true, beq_iff_eq, Ch.mk.injEq]
  constructor
  · rintro ⟨h1, h2, h3, h4⟩
    exact ⟨ba_inj (by rw [ByteArray.toList_eq, ByteArray.toList_eq] at h1; exact h1), h2, h3, h4⟩
  · rintro ⟨rfl, rfl, rfl, rfl⟩
    exact ⟨rfl, rfl, rfl, rfl⟩

theorem list_len_ne {α : Type} {l1 l2 : List α} (h : l1.length ≠ l2.length) : l1 ≠ l2 := fun e => h (by rw [e])
theorem take_next {α : Type} {l1 l2 : List α} {k : Nat} {x : α} (h : l1.take k = l2.take k) (h1 : l1[k]? = some x) (h2 : l2[k]? = some x) : l1.take (k + 1) = l2.take (k + 1) := by
  rw [take_snoc h1, take_snoc h2, h]

set_option maxRecDepth 100000 in
set_option maxHeartbeats 8000000 in
theorem equal_any (l1 l2 : List Ch) (A1 A2 : Option Addr) (c1 c2 : Nat) (w : World) (h1 : RowAt chL 4 w w.heap.size A1 l1) (h2 : RowAt chL 4 w w.heap.size A2 l2) (hm : l1.length ≤ 100000) :
    Calls Tryz.prog 57 #[.slice A1 l1.length c1, .slice A2 l2.length c2] w fun e w' => BoolIs e (l1 = l2) ∧ Below w.heap.size w w' := by
  have H1 := Lib.hid h1
  have H2 := Lib.hid h2
  clear h1 h2
  by_cases hl : l1.length = l2.length
  · have hl2 : ¬ (l1.length : Int) ≠ (l2.length : Int) := by omega
    have HL := Lib.hid hl
    rw [← hl]
    clear hl hl2
    go_enter Tryz.func57, Tryz.ntmps57
    go_wp2_with fail
    go_loopw [13] (fun i wr => ∃ k : Nat, k ≤ l1.length ∧ i = .int .i64 k ∧ Hid (l1.take k = l2.take k) ∧ Below w.heap.size w wr) (fun i _ => l1.length - (intOf i).toNat)
    case atStart => exact ⟨0, Nat.zero_le _, rfl, Lib.hid rfl, Below.refl _ _⟩
    case round =>
      obtain ⟨k, hk, rfl, HT, hw0⟩ := hrel
      have z0 := hw0.size
      by_cases hlt : k < l1.length
      · obtain ⟨c, hc⟩ : ∃ x, l1[k]? = some x := ⟨l1[k], List.getElem?_eq_getElem hlt⟩
        obtain ⟨e, he⟩ : ∃ x, l2[k]? = some x := ⟨l2[k]'(by rw [← HL.out]; exact hlt), List.getElem?_eq_getElem _⟩
        obtain ⟨g1, o1, rfl, _, p0, p1, p2, p3⟩ := cellsC (row_step H1.out hw0) hc
        obtain ⟨g2, o2, rfl, _, q0, q1, q2, q3⟩ := cellsC (row_step H2.out hw0) he
        have HC := Lib.hid hc
        have HE := Lib.hid he
        have hlt2 : (k : Int) < (l1.length : Int) := by omega
        clear hc he
        cases hq : chEq c e with
        | true =>
          have hne := fun W => neCh (c := c) (e := e) (b := false) (by rw [hq]; rfl) W
          obtain rfl := chEq_iff.1 hq
          clear hq
          go_wp2_with fail
          go_quiet (fail)
          go_wp2_with fail
          go_roundw
          case rel => exact ⟨k + 1, by omega, by go_num, Lib.hid (take_next HT.out HC.out HE.out), by (repeat' (first | with_reducible exact Below.refl _ _ | with_reducible assumption | with_reducible refine Below.drew ?_ | with_reducible refine below_drewN ?_ _ | with_reducible refine Below.setCell ?_ ?_ _ | with_reducible refine Below.alloc ?_ ?_ _ | omega | (simp; done) | (simp; omega)))⟩
          case measure => simp [intOf] <;> omega
        | false =>
          have hne := fun W => neCh (c := c) (e := e) (b := true) (by rw [hq]; rfl) W
          have HN : Hid (l1 ≠ l2) := Lib.hid (fun q => by
            have h3 := HC.out
            rw [q, HE.out] at h3
            injection h3 with h3
            rw [← h3, chEq_iff.2 rfl] at hq
            cases hq)
          clear hq
          go_wp2_with fail
          go_quiet (fail)
          go_wp2_with fail
          go_ret
          exact ⟨bool_no HN.out, by (repeat' (first | with_reducible exact Below.refl _ _ | with_reducible assumption | with_reducible refine Below.drew ?_ | with_reducible refine below_drewN ?_ _ | with_reducible refine Below.setCell ?_ ?_ _ | with_reducible refine Below.alloc ?_ ?_ _ | omega | (simp; done) | (simp; omega)))⟩
      · obtain rfl : k = l1.length := by omega
        have hlt2 : ¬ (l1.length : Int) < (l1.length : Int) := by omega
        have HEQ : Hid (l1 = l2) := Lib.hid (by have := HT.out; rw [List.take_length, HL.out, List.take_length] at this; exact this)
        go_wp2_with fail
        go_ret
        exact ⟨bool_yes HEQ.out, hw0⟩
  · have HN := Lib.hid (list_len_ne hl)
    have hl2 : (l1.length : Int) ≠ (l2.length : Int) := by omega
    have hl3 : ¬ (l1.length : Int) = (l2.length : Int) := by omega
    go_enter Tryz.func57, Tryz.ntmps57
    go_wp2_with fail
    go_ret
    exact ⟨bool_no HN.out, Below.refl _ _⟩

set_option maxRecDepth 100000 in
set_option maxHeartbeats 400000 in
theorem same_any (a M N a' M' N' : Nat) (f f' : Am) (l l' : List Ch) (w : World) (h : AmAt w a M f N) (h' : AmAt w a' M' f' N') (hN : N ≤ 100000) (hN' : N' ≤ 100000) (hl : Canon f l) (hl' : Canon f' l') :
    Calls Tryz.prog 29 #[.pointer (some ⟨a, 0, none⟩), .pointer (some ⟨a', 0, none⟩)] w fun e w' => BoolIs e (l = l') ∧ Below w.heap.size w w' := by
  have H1 := Lib.hid h
  have H2 := Lib.hid h'
  have L1 := Lib.hid hl
  have L2 := Lib.hid hl'
  clear h h' hl hl'
  go_enter Tryz.func29, Tryz.ntmps29
  go_wp2_with fail
  refine (changes_any a M N f _ H1.out hN).mono ?_
  rintro e w1 ⟨⟨v1, m1, rfl, ho1, hc1, hn1⟩, hb1⟩
  obtain ⟨A1, c1, rfl, _, _, hr1⟩ := Own.rows (fun x _ => chL_len x) ho1
  obtain rfl := hc1.unique L1.out
  have R1 := Lib.hid hr1
  have HN1 := Lib.hid hn1
  clear ho1 hr1 hn1 hc1
  go_wp2_with fail
  refine (changes_any a' M' N' f' _ (H2.out.step hb1) hN').mono ?_
  rintro e w2 ⟨⟨v2, m2, rfl, ho2, hc2, hn2⟩, hb2⟩
  obtain ⟨A2, c2, rfl, _, _, hr2⟩ := Own.rows (fun x _ => chL_len x) ho2
  obtain rfl := hc2.unique L2.out
  have hw2 := stepH hb1 hb2
  have R2 := Lib.hid hr2
  have R3 := Lib.hid (row_step R1.out hb2)
  have HN2 := Lib.hid hn2
  clear ho2 hr2 hb2 hn2 hc2
  go_wp2_with fail
  refine (equal_any m1 m2 A1 A2 c1 c2 _ R3.out R2.out (by have := HN1.out; omega)).mono ?_
  rintro e w3 ⟨⟨b, rfl, hb⟩, hb3⟩
  have HB : Hid (BoolIs (.returned (.bool b)) (m1 = m2)) := Lib.hid ⟨b, rfl, hb⟩
  clear hb
  have hw3 := stepH hw2 hb3
  go_wp2_with fail
  go_ret
  exact ⟨HB.out, hw3⟩
end Go.Proofs.YtmoeoomlggjaaaaGreatDoor
