/- Names: text.isDigit, Word, Name: walks. -/
import Derived.Test.YtmoeoomlggjaaaaGreatDoorKit
import Derived.Test.YtmoeoomlggjaaaaGreatDoorShelf
namespace Go.Proofs.YtmoeoomlggjaaaaGreatDoor
open Go.RowKit

/-- a byte of a word: the first one, or one behind it -/
def digB (c : UInt8) : Bool := decide (48 ≤ c.toNat) && decide (c.toNat ≤ 57)
def okW (first : Bool) (c : UInt8) : Bool := (decide (97 ≤ c.toNat) && decide (c.toNat ≤ 122)) || (!first && (digB c || c == 95))
def wordL : List UInt8 → Bool
  | [] => false
  | c :: r => okW true c && r.all (okW false)

theorem isDigit_any (c : UInt8) (w : World) : Calls Tryz.prog 124 #[.int .u8 c.toNat] w fun e w' => e = .returned (.bool (digB c)) ∧ Below w.heap.size w w' := by
  unfold digB
  by_cases h1 : 48 ≤ c.toNat
  · have e1 : decide ((48 : Int) ≤ (c.toNat : Int)) = true := decide_eq_true (by omega)
    by_cases h2 : c.toNat ≤ 57
    · have e2 : decide ((c.toNat : Int) ≤ 57) = true := decide_eq_true (by omega)
      rw [decide_eq_true h1, decide_eq_true h2]
      go_enter Tryz.func124, Tryz.ntmps124
      go_wp2_with fail
      go_ret
      exact ⟨rfl, by (repeat' (first | with_reducible exact Below.refl _ _ | with_reducible assumption | with_reducible refine Below.drew ?_ | with_reducible refine below_drewN ?_ _ | with_reducible refine Below.setCell ?_ ?_ _ | with_reducible refine Below.alloc ?_ ?_ _ | omega | (simp; done) | (simp; omega)))⟩
    · have e2 : decide ((c.toNat : Int) ≤ 57) = false := decide_eq_false (by omega)
      rw [decide_eq_true h1, decide_eq_false h2]
      go_enter Tryz.func124, Tryz.ntmps124
      go_wp2_with fail
      go_ret
      exact ⟨rfl, by (repeat' (first | with_reducible exact Below.refl _ _ | with_reducible assumption | with_reducible refine Below.drew ?_ | with_reducible refine below_drewN ?_ _ | with_reducible refine Below.setCell ?_ ?_ _ | with_reducible refine Below.alloc ?_ ?_ _ | omega | (simp; done) | (simp; omega)))⟩
  · have e1 : decide ((48 : Int) ≤ (c.toNat : Int)) = false := decide_eq_false (by omega)
    rw [decide_eq_false h1]
    go_enter Tryz.func124, Tryz.ntmps124
    go_wp2_with fail
    go_ret
    exact ⟨rfl, by (repeat' (first | with_reducible exact Below.refl _ _ | with_reducible assumption | with_reducible refine Below.drew ?_ | with_reducible refine below_drewN ?_ _ | with_reducible refine Below.setCell ?_ ?_ _ | with_reducible refine Below.alloc ?_ ?_ _ | omega | (simp; done) | (simp; omega)))⟩

theorem wordL_all {l : List UInt8} (h : ∀ (j : Nat) c, l[j]? = some c → okW (decide (j = 0)) c = true) : wordL l = !l.isEmpty := by
  cases l with
  | nil => rfl
  | cons c r =>
    show (okW true c && r.all (okW false)) = _
    rw [show okW true c = true from h 0 c rfl, Bool.true_and, List.all_eq_true.2]
    · rfl
    · intro x hx
      obtain ⟨j, hj, e⟩ := List.mem_iff_getElem.1 hx
      have := h (j + 1) x (by rw [List.getElem?_cons_succ, List.getElem?_eq_getElem hj, e])
      simpa using this
theorem wordL_no {l : List UInt8} {k : Nat} {c : UInt8} (hc : l[k]? = some c) (h : okW (decide (k = 0)) c = false) : wordL l = false := by
  cases l with
  | nil => cases hc
  | cons x r =>
    show (okW true x && r.all (okW false)) = _
    cases k with
    | zero => cases hc; rw [show okW true c = false from h, Bool.false_and]
    | succ k =>
      have hm : c ∈ r := List.mem_of_getElem? (by simpa using hc)
      have : r.all (okW false) = false := by
        rw [List.all_eq_false]
        exact ⟨c, hm, by simpa using h⟩
      rw [this, Bool.and_false]

set_option maxRecDepth 10000 in
set_option maxHeartbeats 4000000 in
theorem word_any (s : ByteArray) (w : World) (hm : s.size ≤ 100000) : Calls Tryz.prog 100 #[.string s] w fun e w' => e = .returned (.bool (wordL s.data.toList)) ∧ Below w.heap.size w w' := by
  go_enter Tryz.func100, Tryz.ntmps100
  go_wp2_with fail
  go_loopw [7] (fun i wr => ∃ k : Nat, k ≤ s.size ∧ i = .int .i64 k ∧ Hid (∀ (j : Nat) c, s.data.toList[j]? = some c → j < k → okW (decide (j = 0)) c = true) ∧ Below w.heap.size w wr) (fun i _ => s.size - (intOf i).toNat)
  case atStart => exact ⟨0, Nat.zero_le _, rfl, Lib.hid (fun j c _ h => by omega), Below.refl _ _⟩
  case round =>
    obtain ⟨k, hk, rfl, HK, hb⟩ := hrel
    have hz := hb.size
    by_cases hlt : k < s.size
    · have hlt2 : (k : Int) < (s.size : Int) := by omega
      obtain ⟨c, hc⟩ : ∃ c, s[k]'hlt = c := ⟨_, rfl⟩
      have i0 : ∀ hh, s[k]'hh = c := fun _ => hc
      have HC : Hid (s.data.toList[k]? = some c) := by show _ = _; rw [← hc]; simp [ByteArray.getElem_eq_getElem_data, hlt]
      have k1 : (0 : Int) ≤ (k : Int) := by omega
      have k2 : ((k : Int)).toNat = k := by omega
      clear hc
      by_cases h1 : c.toNat < 97
      · have e1 : decide ((c.toNat : Int) < 97) = true := decide_eq_true (by omega)
        have HL : Hid ((decide (97 ≤ c.toNat) && decide (c.toNat ≤ 122)) = false) := by show _ = _; simp; omega
        by_cases h0 : k = 0
        · subst h0
          have HNO : Hid (wordL s.data.toList = false) := wordL_no HC.out (by unfold okW; rw [HL.out]; rfl)
          clear h1
          go_wp2_with fail
          go_ret
          exact ⟨by rw [HNO.out]; rfl, by (repeat' (first | with_reducible exact Below.refl _ _ | with_reducible assumption | with_reducible refine Below.drew ?_ | with_reducible refine below_drewN ?_ _ | with_reducible refine Below.setCell ?_ ?_ _ | with_reducible refine Below.alloc ?_ ?_ _ | omega | (simp; done) | (simp; omega)))⟩
        · have e3 : ((k : Int) == 0) = false := by rw [beq_eq_false_iff_ne]; omega
          cases hdg : digB c with
          | true =>
            have HDG := Lib.hid hdg
            have HOK : Hid (okW (decide (k = 0)) c = true) := by show _ = _; unfold okW; rw [HL.out, decide_eq_false h0, hdg]; rfl
            clear h1 hdg h0
            go_wp2_with fail
            refine (isDigit_any c _).mono ?_
            rintro e w1 ⟨rfl, hb1⟩
            have hw1 : Below w.heap.size w w1 := stepH hb hb1
            rw [HDG.out]
            go_wp2_with fail
            go_roundw
            case rel => exact ⟨k + 1, by omega, by go_num, Lib.hid (fun j x hx hj => by
              rcases Nat.lt_or_ge j k with h | h
              · exact HK.out j x hx h
              · obtain rfl : j = k := by omega
                rw [HC.out] at hx; cases hx; exact HOK.out), hw1⟩
            case measure => simp [intOf]; omega
          | false =>
            have HDG := Lib.hid hdg
            by_cases h5 : c.toNat = 95
            · have e5 : ((c.toNat : Int) != 95) = false := by rw [bne_eq_false_iff_eq]; omega
              have HOK : Hid (okW (decide (k = 0)) c = true) := by show _ = _; unfold okW; rw [HL.out, decide_eq_false h0, hdg, show (c == 95) = true by rw [beq_iff_eq]; exact UInt8.toNat_inj.1 (by simpa using h5)]; rfl
              clear h1 hdg h0 h5
              go_wp2_with fail
              refine (isDigit_any c _).mono ?_
              rintro e w1 ⟨rfl, hb1⟩
              have hw1 : Below w.heap.size w w1 := stepH hb hb1
              rw [HDG.out]
              go_wp2_with fail
              go_roundw
              case rel => exact ⟨k + 1, by omega, by go_num, Lib.hid (fun j x hx hj => by
                rcases Nat.lt_or_ge j k with h | h
                · exact HK.out j x hx h
                · obtain rfl : j = k := by omega
                  rw [HC.out] at hx; cases hx; exact HOK.out), hw1⟩
              case measure => simp [intOf]; omega
            · have e5 : ((c.toNat : Int) != 95) = true := by rw [bne_iff_ne]; omega
              have HNO : Hid (wordL s.data.toList = false) := wordL_no HC.out (by unfold okW; rw [HL.out, decide_eq_false h0, hdg, show (c == 95) = false by rw [beq_eq_false_iff_ne]; intro h; subst h; exact h5 rfl]; rfl)
              clear h1 hdg h0 h5
              go_wp2_with fail
              refine (isDigit_any c _).mono ?_
              rintro e w1 ⟨rfl, hb1⟩
              have hw1 : Below w.heap.size w w1 := stepH hb hb1
              rw [HDG.out]
              go_wp2_with fail
              go_ret
              exact ⟨by rw [HNO.out]; rfl, hw1⟩
      · have e1 : decide ((c.toNat : Int) < 97) = false := decide_eq_false (by omega)
        by_cases h2 : 122 < c.toNat
        · have e2 : decide ((122 : Int) < (c.toNat : Int)) = true := decide_eq_true (by omega)
          have HL : Hid ((decide (97 ≤ c.toNat) && decide (c.toNat ≤ 122)) = false) := by show _ = _; simp; omega
          by_cases h0 : k = 0
          · subst h0
            have HNO : Hid (wordL s.data.toList = false) := wordL_no HC.out (by unfold okW; rw [HL.out]; rfl)
            clear h1 h2
            go_wp2_with fail
            go_ret
            exact ⟨by rw [HNO.out]; rfl, by (repeat' (first | with_reducible exact Below.refl _ _ | with_reducible assumption | with_reducible refine Below.drew ?_ | with_reducible refine below_drewN ?_ _ | with_reducible refine Below.setCell ?_ ?_ _ | with_reducible refine Below.alloc ?_ ?_ _ | omega | (simp; done) | (simp; omega)))⟩
          · have e3 : ((k : Int) == 0) = false := by rw [beq_eq_false_iff_ne]; omega
            cases hdg : digB c with
            | true =>
              have HDG := Lib.hid hdg
              have HOK : Hid (okW (decide (k = 0)) c = true) := by show _ = _; unfold okW; rw [HL.out, decide_eq_false h0, hdg]; rfl
              clear h1 h2 hdg h0
              go_wp2_with fail
              refine (isDigit_any c _).mono ?_
              rintro e w1 ⟨rfl, hb1⟩
              have hw1 : Below w.heap.size w w1 := stepH hb hb1
              rw [HDG.out]
              go_wp2_with fail
              go_roundw
              case rel => exact ⟨k + 1, by omega, by go_num, Lib.hid (fun j x hx hj => by
                rcases Nat.lt_or_ge j k with h | h
                · exact HK.out j x hx h
                · obtain rfl : j = k := by omega
                  rw [HC.out] at hx; cases hx; exact HOK.out), hw1⟩
              case measure => simp [intOf]; omega
            | false =>
              have HDG := Lib.hid hdg
              by_cases h5 : c.toNat = 95
              · have e5 : ((c.toNat : Int) != 95) = false := by rw [bne_eq_false_iff_eq]; omega
                have HOK : Hid (okW (decide (k = 0)) c = true) := by show _ = _; unfold okW; rw [HL.out, decide_eq_false h0, hdg, show (c == 95) = true by rw [beq_iff_eq]; exact UInt8.toNat_inj.1 (by simpa using h5)]; rfl
                clear h1 h2 hdg h0 h5
                go_wp2_with fail
                refine (isDigit_any c _).mono ?_
                rintro e w1 ⟨rfl, hb1⟩
                have hw1 : Below w.heap.size w w1 := stepH hb hb1
                rw [HDG.out]
                go_wp2_with fail
                go_roundw
                case rel => exact ⟨k + 1, by omega, by go_num, Lib.hid (fun j x hx hj => by
                  rcases Nat.lt_or_ge j k with h | h
                  · exact HK.out j x hx h
                  · obtain rfl : j = k := by omega
                    rw [HC.out] at hx; cases hx; exact HOK.out), hw1⟩
                case measure => simp [intOf]; omega
              · have e5 : ((c.toNat : Int) != 95) = true := by rw [bne_iff_ne]; omega
                have HNO : Hid (wordL s.data.toList = false) := wordL_no HC.out (by unfold okW; rw [HL.out, decide_eq_false h0, hdg, show (c == 95) = false by rw [beq_eq_false_iff_ne]; intro h; subst h; exact h5 rfl]; rfl)
                clear h1 h2 hdg h0 h5
                go_wp2_with fail
                refine (isDigit_any c _).mono ?_
                rintro e w1 ⟨rfl, hb1⟩
                have hw1 : Below w.heap.size w w1 := stepH hb hb1
                rw [HDG.out]
                go_wp2_with fail
                go_ret
                exact ⟨by rw [HNO.out]; rfl, hw1⟩
        · have e2 : decide ((122 : Int) < (c.toNat : Int)) = false := decide_eq_false (by omega)
          have HOK : Hid (okW (decide (k = 0)) c = true) := by show _ = _; unfold okW; rw [decide_eq_true (show 97 ≤ c.toNat by omega), decide_eq_true (show c.toNat ≤ 122 by omega)]; rfl
          clear h1 h2
          go_wp2_with fail
          go_roundw
          case rel => exact ⟨k + 1, by omega, by go_num, Lib.hid (fun j x hx hj => by
            rcases Nat.lt_or_ge j k with h | h
            · exact HK.out j x hx h
            · obtain rfl : j = k := by omega
              rw [HC.out] at hx; cases hx; exact HOK.out), hb⟩
          case measure => simp [intOf]; omega
    · have HE := Lib.hid (wordL_all (l := s.data.toList) (fun j c hc => HK.out j c hc (by have := (List.getElem?_eq_some_iff.1 hc).1; simp at this; omega)))
      have hlt2 : ¬ (k : Int) < (s.size : Int) := by omega
      go_wp2_with fail
      go_ret
      exact ⟨by rw [HE.out, ByteArray.toList_eq]; rfl, hb⟩

end Go.Proofs.YtmoeoomlggjaaaaGreatDoor
