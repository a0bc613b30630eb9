/- The document's next change: walk. -/
import Derived.Test.YtjcdlhplflmneaaDoorNormB
namespace Go.Proofs.YtjcdlhplflmneaaDoor
open Go.RowKit

theorem nextR_step {l : List (Pc Int)} {k : Nat} {p : Pc Int} {M n : Int} (hp : l[k]? = some p) : nextR M (l.drop k) n = if n < p.f then some p.f else if (∀ q, l[k + 1]? = some q → p.t < q.f) ∧ n < p.t ∧ p.t < M then some p.t else nextR M (l.drop (k + 1)) n := by
  rw [drop_cons hp, nextR]
  simp only [List.head?_drop]

set_option maxRecDepth 10000 in
set_option maxHeartbeats 8000000 in
theorem refNext6_any (l : List (Pc Int)) (A : Option Addr) (c : Nat) (n : Int) (w : World) (hl : RowAt encP 3 w w.heap.size A l) (hm : l.length ≤ 1000) (hc : Canon MD l) :
    Calls Tryd.prog 37 #[.slice A l.length c, .int .i64 n, .int .i64 3652059] w fun e w' => e = .returned (.tuple #[.int .i64 (vN (nextL MD l n)), .bool (vB6 (nextL MD l n))]) ∧ Below w.heap.size w w' := by
  have hv : ∀ p ∈ l, ValidP MD p := fun p hp => ⟨(hc.rise.mem hp).1, (hc.rise.mem hp).2, hc.upTo p hp⟩
  have hmade : Made MD l l := ⟨hc, fun n => (hc.rise.rev n).symm⟩
  rw [← nextR_eq hc.rise hc.upTo]
  have HL := Lib.hid hl
  obtain ⟨o, ho⟩ : ∃ o, nextR MD l n = o := ⟨_, rfl⟩
  rw [ho]
  have HO := Lib.hid ho
  clear hl ho
  go_enter Tryd.func37, Tryd.ntmps37
  go_wp2_with fail
  refine (norm6_any l A c w HL.out (by omega) hv).mono ?_
  rintro e w1 ⟨⟨A1, c1, r, rfl, hr1, hm1⟩, hb1⟩
  obtain rfl := hm1.uniq hmade
  have hw1 : Below w.heap.size w w1 := hb1
  have z1 := hw1.size
  have HR := Lib.hid hr1
  clear hb1 hr1 hm1 hmade hv hc
  go_wp2_with fail
  go_loopw [9] (fun i wr => ∃ k : Nat, k ≤ r.length ∧ i = .int .i64 k ∧ Hid (nextR MD (r.drop k) n = o) ∧ Below w1.heap.size w1 wr) (fun i _ => r.length - (intOf i).toNat)
  case atStart => exact ⟨0, Nat.zero_le _, rfl, by rw [List.drop_zero]; exact HO, Below.refl _ _⟩
  case round =>
    obtain ⟨k, hk, rfl, HK, hwr⟩ := hrel
    have hw0 : Below w.heap.size w wr := stepH hw1 hwr
    by_cases hlt : k < r.length
    · obtain ⟨p, hp⟩ : ∃ p, r[k]? = some p := ⟨r[k], List.getElem?_eq_getElem hlt⟩
      obtain ⟨g, off, rfl, hg, j0, j1, j2⟩ := cells3 (HR.out.below hwr (Nat.le_refl _)) hp
      have hlt2 : (k : Int) < (r.length : Int) := by omega
      have i6 : ((k : Int)).toNat = k := by omega
      have i7 : IntKind.i64.wrap ((k : Int) + 1) = (k : Int) + 1 := by rw [IntKind.wrap_i64]; omega
      have HS := Lib.hid (HK.out.symm.trans (nextR_step hp))
      clear hp
      by_cases a : n < p.f
      · have e1 : decide (n < p.f) = true := decide_eq_true a
        obtain rfl : o = some p.f := by rw [HS.out, if_pos a]
        clear a
        go_wp2_with fail
        go_ret2
        exact ⟨rfl, hw0⟩
      · have e1 : decide (n < p.f) = false := decide_eq_false a
        by_cases hlast : k + 1 = r.length
        · have e2 : (((k : Int) + 1) == (r.length : Int)) = true := by simp; omega
          have hg0 : ∀ q, r[k + 1]? = some q → p.t < q.f := fun q hq => by rw [List.getElem?_eq_none (by omega)] at hq; cases hq
          by_cases b : n < p.t
          · have e3 : decide (n < p.t) = true := decide_eq_true b
            by_cases d : p.t < (3652059 : Int)
            · have e4 : decide (p.t < (3652059 : Int)) = true := decide_eq_true d
              obtain rfl : o = some p.t := by rw [HS.out, if_neg a, if_pos ⟨hg0, b, d⟩]
              clear a b d hg0
              go_wp2_with fail
              go_quiet (fail)
              go_wp2_with fail
              go_ret2
              exact ⟨rfl, by (repeat' (first | with_reducible exact Below.refl _ _ | with_reducible assumption | with_reducible refine Below.drew ?_ | with_reducible refine below_drewN ?_ _ | with_reducible refine Below.setCell ?_ ?_ _ | with_reducible refine Below.alloc ?_ ?_ _ | omega | (simp; done) | (simp; omega)))⟩
            · have e4 : decide (p.t < (3652059 : Int)) = false := decide_eq_false d
              have HK2 : Hid (nextR MD (r.drop (k + 1)) n = o) := by show _ = _; rw [HS.out, if_neg a, if_neg (fun h => d h.2.2)]
              clear a b d hg0
              go_wp2_with fail
              go_quiet (fail)
              go_wp2_with fail
              go_roundw
              case rel => exact ⟨k + 1, by omega, by go_num, HK2, by (repeat' (first | with_reducible exact Below.refl _ _ | with_reducible assumption | with_reducible refine Below.drew ?_ | with_reducible refine below_drewN ?_ _ | with_reducible refine Below.setCell ?_ ?_ _ | with_reducible refine Below.alloc ?_ ?_ _ | omega | (simp; done) | (simp; omega)))⟩
              case measure => simp [intOf]; omega
          · have e3 : decide (n < p.t) = false := decide_eq_false b
            have HK2 : Hid (nextR MD (r.drop (k + 1)) n = o) := by show _ = _; rw [HS.out, if_neg a, if_neg (fun h => b h.2.1)]
            clear a b hg0
            go_wp2_with fail
            go_quiet (fail)
            go_wp2_with fail
            go_roundw
            case rel => exact ⟨k + 1, by omega, by go_num, HK2, by (repeat' (first | with_reducible exact Below.refl _ _ | with_reducible assumption | with_reducible refine Below.drew ?_ | with_reducible refine below_drewN ?_ _ | with_reducible refine Below.setCell ?_ ?_ _ | with_reducible refine Below.alloc ?_ ?_ _ | omega | (simp; done) | (simp; omega)))⟩
            case measure => simp [intOf]; omega
        · have e2 : (((k : Int) + 1) == (r.length : Int)) = false := by simp; omega
          have i1 : (k : Int) + 1 < (r.length : Int) := by omega
          have i4 : ((k : Int) + 1).toNat = k + 1 := by omega
          obtain ⟨q, hq⟩ : ∃ q, r[k + 1]? = some q := ⟨r[k + 1]'(by omega), List.getElem?_eq_getElem _⟩
          obtain ⟨_, _, eA, _, m0, m1, m2⟩ := cells3 (HR.out.below hwr (Nat.le_refl _)) hq
          cases eA
          by_cases hgp : p.t < q.f
          · have e5 : decide (p.t < q.f) = true := decide_eq_true hgp
            have hg0 : ∀ q, r[k + 1]? = some q → p.t < q.f := fun q' hq' => by rw [hq] at hq'; cases hq'; exact hgp
            by_cases b : n < p.t
            · have e3 : decide (n < p.t) = true := decide_eq_true b
              by_cases d : p.t < (3652059 : Int)
              · have e4 : decide (p.t < (3652059 : Int)) = true := decide_eq_true d
                obtain rfl : o = some p.t := by rw [HS.out, if_neg a, if_pos ⟨hg0, b, d⟩]
                clear a b d hg0 hgp hq
                go_wp2_with fail
                go_quiet (fail)
                go_wp2_with fail
                go_ret2
                exact ⟨rfl, by (repeat' (first | with_reducible exact Below.refl _ _ | with_reducible assumption | with_reducible refine Below.drew ?_ | with_reducible refine below_drewN ?_ _ | with_reducible refine Below.setCell ?_ ?_ _ | with_reducible refine Below.alloc ?_ ?_ _ | omega | (simp; done) | (simp; omega)))⟩
              · have e4 : decide (p.t < (3652059 : Int)) = false := decide_eq_false d
                have HK2 : Hid (nextR MD (r.drop (k + 1)) n = o) := by show _ = _; rw [HS.out, if_neg a, if_neg (fun h => d h.2.2)]
                clear a b d hg0 hgp hq
                go_wp2_with fail
                go_quiet (fail)
                go_wp2_with fail
                go_roundw
                case rel => exact ⟨k + 1, by omega, by go_num, HK2, by (repeat' (first | with_reducible exact Below.refl _ _ | with_reducible assumption | with_reducible refine Below.drew ?_ | with_reducible refine below_drewN ?_ _ | with_reducible refine Below.setCell ?_ ?_ _ | with_reducible refine Below.alloc ?_ ?_ _ | omega | (simp; done) | (simp; omega)))⟩
                case measure => simp [intOf]; omega
            · have e3 : decide (n < p.t) = false := decide_eq_false b
              have HK2 : Hid (nextR MD (r.drop (k + 1)) n = o) := by show _ = _; rw [HS.out, if_neg a, if_neg (fun h => b h.2.1)]
              clear a b hg0 hgp hq
              go_wp2_with fail
              go_quiet (fail)
              go_wp2_with fail
              go_roundw
              case rel => exact ⟨k + 1, by omega, by go_num, HK2, by (repeat' (first | with_reducible exact Below.refl _ _ | with_reducible assumption | with_reducible refine Below.drew ?_ | with_reducible refine below_drewN ?_ _ | with_reducible refine Below.setCell ?_ ?_ _ | with_reducible refine Below.alloc ?_ ?_ _ | omega | (simp; done) | (simp; omega)))⟩
              case measure => simp [intOf]; omega
          · have e5 : decide (p.t < q.f) = false := decide_eq_false hgp
            have HK2 : Hid (nextR MD (r.drop (k + 1)) n = o) := by show _ = _; rw [HS.out, if_neg a, if_neg (fun h => hgp (h.1 q hq))]
            clear a hgp hq
            go_wp2_with fail
            go_quiet (fail)
            go_wp2_with fail
            go_roundw
            case rel => exact ⟨k + 1, by omega, by go_num, HK2, by (repeat' (first | with_reducible exact Below.refl _ _ | with_reducible assumption | with_reducible refine Below.drew ?_ | with_reducible refine below_drewN ?_ _ | with_reducible refine Below.setCell ?_ ?_ _ | with_reducible refine Below.alloc ?_ ?_ _ | omega | (simp; done) | (simp; omega)))⟩
            case measure => simp [intOf]; omega
    · obtain rfl : k = r.length := by omega
      obtain rfl : o = none := by rw [← HK.out, List.drop_length]; rfl
      go_wp2_with fail
      go_ret2
      exact ⟨rfl, hw0⟩

end Go.Proofs.YtjcdlhplflmneaaDoor
