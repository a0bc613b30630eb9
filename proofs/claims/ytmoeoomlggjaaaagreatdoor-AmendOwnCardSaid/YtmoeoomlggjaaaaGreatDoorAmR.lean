/- SameItems: the walk. -/
import Derived.Test.YtmoeoomlggjaaaaGreatDoorAmQ
namespace Go.Proofs.YtmoeoomlggjaaaaGreatDoor
open Go.RowKit Go.Maps

set_option maxRecDepth 100000 in
set_option maxHeartbeats 4000000 in
theorem sameIs_any (l1 l2 : List It) (A1 A2 : Option Addr) (c1 c2 : Nat) (w : World) (h1 : RowAt itL 3 w w.heap.size A1 l1) (h2 : RowAt itL 3 w w.heap.size A2 l2) (hm : l1.length ≤ 100000) :
    Calls Tryz.prog 12 #[.slice A1 l1.length c1, .slice A2 l2.length c2] w fun e w' => BoolIs e (l1 = l2) ∧ Below w.heap.size w w' := by
  have H1 := Lib.hid h1
  have H2 := Lib.hid h2
  clear h1 h2
  by_cases hl : l1.length = l2.length
  · have HL := Lib.hid hl
    rw [← hl]
    clear hl
    go_enter Tryz.func12, Tryz.ntmps12
    go_wp2_with fail
    go_loopw [5] (fun i wr => ∃ k : Nat, k ≤ l1.length ∧ i = .int .i64 k ∧ Hid (l1.take k = l2.take k) ∧ Below w.heap.size w wr) (fun i _ => l1.length - (intOf i).toNat)
    case atStart => exact ⟨0, Nat.zero_le _, rfl, Lib.hid rfl, Below.refl _ _⟩
    case round =>
      obtain ⟨k, hk, rfl, HT, hw0⟩ := hrel
      have z0 := hw0.size
      by_cases hlt : k < l1.length
      · obtain ⟨c, hc⟩ : ∃ x, l1[k]? = some x := ⟨l1[k], List.getElem?_eq_getElem hlt⟩
        obtain ⟨e, he⟩ : ∃ x, l2[k]? = some x := ⟨l2[k]'(by rw [← HL.out]; exact hlt), List.getElem?_eq_getElem _⟩
        obtain ⟨g1, o1, rfl, _, p0, p1, p2⟩ := cellsI (row_step H1.out hw0) hc
        obtain ⟨g2, o2, rfl, _, q0, q1, q2⟩ := cellsI (row_step H2.out hw0) he
        have HC := Lib.hid hc
        have HE := Lib.hid he
        have hlt2 : (k : Int) < (l1.length : Int) := by omega
        clear hc he
        by_cases hq : c = e
        · subst hq
          have HS := Lib.hid (fun W => sameI_any c c true W (by simp))
          unfold itV at HS
          have hbd : Below wr.heap.size wr wr.drew := (Below.refl _ _).drew
          have x0 : wr.drew.cell? ⟨g1, o1 + k * 3, none⟩ = some (.string c.name) := p0
          have x1 : wr.drew.cell? ⟨g1, o1 + k * 3 + 1, none⟩ = some (.int .i64 c.n) := p1
          have x2 : wr.drew.cell? ⟨g1, o1 + k * 3 + 2, none⟩ = some (.int .i64 c.d) := p2
          have x3 : wr.drew.cell? ⟨g2, o2 + k * 3, none⟩ = some (.string c.name) := q0
          have x4 : wr.drew.cell? ⟨g2, o2 + k * 3 + 1, none⟩ = some (.int .i64 c.n) := q1
          have x5 : wr.drew.cell? ⟨g2, o2 + k * 3 + 2, none⟩ = some (.int .i64 c.d) := q2
          go_wp2_with fail
          go_region_held3 (fun w' => w'.cell? ⟨g1, o1 + k * 3, none⟩ = some (.string c.name) ∧ w'.cell? ⟨g1, o1 + k * 3 + 1, none⟩ = some (.int .i64 c.n) ∧ w'.cell? ⟨g1, o1 + k * 3 + 2, none⟩ = some (.int .i64 c.d) ∧ w'.cell? ⟨g2, o2 + k * 3, none⟩ = some (.string c.name) ∧ w'.cell? ⟨g2, o2 + k * 3 + 1, none⟩ = some (.int .i64 c.n) ∧ w'.cell? ⟨g2, o2 + k * 3 + 2, none⟩ = some (.int .i64 c.d)) (first | with_reducible exact ⟨x0, x1, x2, x3, x4, x5⟩ | with_reducible exact ⟨d0, d1, d2, d3, d4, d5⟩)
            (first | (go_at_call 42; refine (HS.out _).mono ?_; rintro e w5 ⟨rfl, hb5⟩; have hb5' : Below wr.heap.size wr w5 := stepH hbd hb5; have d0 := cell_at p0 hb5'; have d1 := cell_at p1 hb5'; have d2 := cell_at p2 hb5'; have d3 := cell_at q0 hb5'; have d4 := cell_at q1 hb5'; have d5 := cell_at q2 hb5'))
          go_wp2_with fail
          go_roundw
          case rel => exact ⟨k + 1, by omega, by go_num, Lib.hid (take_next HT.out HC.out HE.out), stepH hw0 hb5'⟩
          case measure => simp [intOf] <;> omega
        · have HN : Hid (l1 ≠ l2) := Lib.hid (fun q => by
            have h3 := HC.out
            rw [q, HE.out] at h3
            injection h3 with h3
            exact hq h3.symm)
          have HS := Lib.hid (fun W => sameI_any c e false W (by simp [hq]))
          unfold itV at HS
          have hbd : Below wr.heap.size wr wr.drew := (Below.refl _ _).drew
          have x0 : wr.drew.cell? ⟨g1, o1 + k * 3, none⟩ = some (.string c.name) := p0
          have x1 : wr.drew.cell? ⟨g1, o1 + k * 3 + 1, none⟩ = some (.int .i64 c.n) := p1
          have x2 : wr.drew.cell? ⟨g1, o1 + k * 3 + 2, none⟩ = some (.int .i64 c.d) := p2
          have x3 : wr.drew.cell? ⟨g2, o2 + k * 3, none⟩ = some (.string e.name) := q0
          have x4 : wr.drew.cell? ⟨g2, o2 + k * 3 + 1, none⟩ = some (.int .i64 e.n) := q1
          have x5 : wr.drew.cell? ⟨g2, o2 + k * 3 + 2, none⟩ = some (.int .i64 e.d) := q2
          clear hq
          go_wp2_with fail
          go_region_held3 (fun w' => w'.cell? ⟨g1, o1 + k * 3, none⟩ = some (.string c.name) ∧ w'.cell? ⟨g1, o1 + k * 3 + 1, none⟩ = some (.int .i64 c.n) ∧ w'.cell? ⟨g1, o1 + k * 3 + 2, none⟩ = some (.int .i64 c.d) ∧ w'.cell? ⟨g2, o2 + k * 3, none⟩ = some (.string e.name) ∧ w'.cell? ⟨g2, o2 + k * 3 + 1, none⟩ = some (.int .i64 e.n) ∧ w'.cell? ⟨g2, o2 + k * 3 + 2, none⟩ = some (.int .i64 e.d)) (first | with_reducible exact ⟨x0, x1, x2, x3, x4, x5⟩ | with_reducible exact ⟨d0, d1, d2, d3, d4, d5⟩)
            (first | (go_at_call 42; refine (HS.out _).mono ?_; rintro e9 w5 ⟨rfl, hb5⟩; have hb5' : Below wr.heap.size wr w5 := stepH hbd hb5; have d0 := cell_at p0 hb5'; have d1 := cell_at p1 hb5'; have d2 := cell_at p2 hb5'; have d3 := cell_at q0 hb5'; have d4 := cell_at q1 hb5'; have d5 := cell_at q2 hb5'))
          go_wp2_with fail
          go_ret
          exact ⟨bool_no HN.out, stepH hw0 hb5'⟩
      · obtain rfl : k = l1.length := by omega
        have hlt2 : ¬ (l1.length : Int) < (l1.length : Int) := by omega
        have HEQ : Hid (l1 = l2) := Lib.hid (by have := HT.out; rw [List.take_length, HL.out, List.take_length] at this; exact this)
        go_wp2_with fail
        go_ret
        exact ⟨bool_yes HEQ.out, hw0⟩
  · have HN := Lib.hid (list_len_ne hl)
    have hl2 : (l1.length : Int) ≠ (l2.length : Int) := by omega
    have hl3 : ¬ (l1.length : Int) = (l2.length : Int) := by omega
    go_enter Tryz.func12, Tryz.ntmps12
    go_wp2_with fail
    go_ret
    exact ⟨bool_no HN.out, Below.refl _ _⟩
end Go.Proofs.YtmoeoomlggjaaaaGreatDoor
