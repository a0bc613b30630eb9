/- The document's sets: Spans (a copy), IsSpan, Spans (are all spans?): walks. -/
import Derived.Test.YtmodofbelpaelaaDoorLineU
import Derived.Test.YtmodofbelpaelaaDoorDayD
import Derived.Test.YtmodofbelpaelaaDoorDayQ
namespace Go.Proofs.YtmodofbelpaelaaDoor
open Go.RowKit

theorem encU_take (l : List (Pc Unit)) (k : Nat) : (l.flatMap encU).take (k * 2) = (l.take k).flatMap encU := by
  induction l generalizing k with
  | nil => simp
  | cons p r ih =>
    cases k with
    | zero => simp
    | succ k =>
      rw [List.take_succ_cons, List.flatMap_cons, List.flatMap_cons, ← ih k, show (k + 1) * 2 = (encU p).length + k * 2 by rw [encU_len]; omega, List.take_append, List.take_of_length_le (by omega)]
      congr 1
      rw [show (encU p).length + k * 2 - (encU p).length = k * 2 by omega]

set_option maxRecDepth 10000 in
set_option maxHeartbeats 4000000 in
theorem spansC_any (l : List (Pc Unit)) (n : Nat) (A : Option Addr) (c : Nat) (w : World) (h : l.length = n) (hl : RowAt encU 2 w w.heap.size A l) (hn : n ≤ 1000000) :
    Calls Tryd.prog 45 #[.slice A n c] w fun e w' => ∃ v, e = .returned v ∧ Own encU 2 91 w.heap.size w' v l ∧ Below w.heap.size w w' := by
  subst h
  obtain ⟨inf0, hi, jz0, jz1, jz2⟩ := info_parts infoSp
  have HL := Lib.hid hl
  clear hl
  go_enter Tryd.func45, Tryd.ntmps45
  go_wp2_with (at_make; go_must (refine wpList_make_own _ rfl _ _ 59 rfl w.heap.size 91 inf0 _ 2 Tryd.underlying59 hi jz0 jz1 .i64 .i64 _ l.length rfl rfl rfl (by rw [jz2]; omega) (by unfold maxLen; omega) (Nat.le_refl _) ?_); intro w0 hown0 hgrow0)
  have hb0 : Below w.heap.size w w0 := (Below.refl _ _).grown hgrow0 (Nat.le_refl _) (fun k h => by cases h)
  go_loopw [3, 4] (fun v i wr => ∃ k : Nat, k ≤ l.length ∧ i = .int .i64 k ∧ wr.ownsRow w.heap.size 91 2 v k ((l.take k).flatMap encU) ∧ Below w.heap.size w wr) (fun _ i _ => l.length - (intOf i).toNat)
  case atStart => exact ⟨0, Nat.zero_le _, rfl, hown0, hb0⟩
  case round =>
    obtain ⟨k, hk, rfl, hown, hb⟩ := hrel
    have hz := hb.size
    by_cases hlt : k < l.length
    · obtain ⟨p, hp⟩ : ∃ p, l[k]? = some p := ⟨l[k], List.getElem?_eq_getElem hlt⟩
      obtain ⟨g, off, rfl, hg, k0, k1⟩ := cells2 (HL.out.below hb (Nat.le_refl _)) hp
      have HX := Lib.hid hp
      clear hp
      go_wp2_with (at_builtin; go_must (refine wpList_append_own _ rfl (.tmp 14) (.tmp 19) 59 rfl w.heap.size 91 inf0 _ 2 16 Tryd.underlying59 hi jz0 jz1 jz2 rfl (by decide) _ k _ rfl (hown.alloc _) ⟨wr.heap.size, 0, none⟩ 1 1 [.int .i64 p.f, .int .i64 p.t] rfl rfl (World.news_of_block (cs := #[.int .i64 p.f, .int .i64 p.t]) (blk_new rfl)) (by simp [Value.oneCell']) (by unfold maxLen; omega) (by omega) (by simp; omega) ?_); intro v' w1 hown' hgrow _)
      go_roundw
      case rel =>
        refine ⟨k + 1, by omega, by go_num, ?_, (Below.alloc hb hz _).grown hgrow (by simp; omega) (fun g hg => (hown.lt g hg).1)⟩
        rw [take_snoc HX.out, List.flatMap_append]; simpa [encU] using hown'
      case measure => simp [intOf]; omega
    · obtain rfl : k = l.length := by omega
      go_wp2
      go_ret
      exact ⟨_, rfl, by unfold Own; simpa using hown, hb⟩

set_option maxRecDepth 10000 in
set_option maxHeartbeats 1000000 in
theorem isSpan_any (f t : Int) (w : World) : Calls Tryd.prog 76 #[.agg #[.int .i64 f, .int .i64 t]] w fun e w' => e = .returned (.bool (decide (0 ≤ f ∧ f < t ∧ t ≤ MD))) ∧ Below w.heap.size w w' := by
  by_cases h1 : 0 ≤ f
  · have e1 : decide (0 ≤ f) = true := decide_eq_true h1
    by_cases h2 : f < t
    · have e2 : decide (f < t) = true := decide_eq_true h2
      by_cases h3 : t ≤ MD
      · have e3 : decide (t ≤ 3652059) = true := decide_eq_true h3
        rw [decide_eq_true (show 0 ≤ f ∧ f < t ∧ t ≤ MD from ⟨h1, h2, h3⟩)]
        clear h1 h2 h3
        go_enter Tryd.func76, Tryd.ntmps76
        go_wp2_with fail
        go_ret
        exact ⟨rfl, by (repeat' (first | with_reducible exact Below.refl _ _ | with_reducible assumption | with_reducible refine Below.drew ?_ | with_reducible refine below_drewN ?_ _ | with_reducible refine Below.setCell ?_ ?_ _ | with_reducible refine Below.alloc ?_ ?_ _ | omega | (simp; done) | (simp; omega)))⟩
      · have e3 : decide (t ≤ 3652059) = false := decide_eq_false h3
        rw [decide_eq_false (show ¬ (0 ≤ f ∧ f < t ∧ t ≤ MD) from fun h => h3 h.2.2)]
        clear h1 h2 h3
        go_enter Tryd.func76, Tryd.ntmps76
        go_wp2_with fail
        go_ret
        exact ⟨rfl, by (repeat' (first | with_reducible exact Below.refl _ _ | with_reducible assumption | with_reducible refine Below.drew ?_ | with_reducible refine below_drewN ?_ _ | with_reducible refine Below.setCell ?_ ?_ _ | with_reducible refine Below.alloc ?_ ?_ _ | omega | (simp; done) | (simp; omega)))⟩
    · have e2 : decide (f < t) = false := decide_eq_false h2
      rw [decide_eq_false (show ¬ (0 ≤ f ∧ f < t ∧ t ≤ MD) from fun h => h2 h.2.1)]
      clear h1 h2
      go_enter Tryd.func76, Tryd.ntmps76
      go_wp2_with fail
      go_ret
      exact ⟨rfl, by (repeat' (first | with_reducible exact Below.refl _ _ | with_reducible assumption | with_reducible refine Below.drew ?_ | with_reducible refine below_drewN ?_ _ | with_reducible refine Below.setCell ?_ ?_ _ | with_reducible refine Below.alloc ?_ ?_ _ | omega | (simp; done) | (simp; omega)))⟩
  · have e1 : decide (0 ≤ f) = false := decide_eq_false h1
    rw [decide_eq_false (show ¬ (0 ≤ f ∧ f < t ∧ t ≤ MD) from fun h => h1 h.1)]
    clear h1
    go_enter Tryd.func76, Tryd.ntmps76
    go_wp2_with fail
    go_ret
    exact ⟨rfl, by (repeat' (first | with_reducible exact Below.refl _ _ | with_reducible assumption | with_reducible refine Below.drew ?_ | with_reducible refine below_drewN ?_ _ | with_reducible refine Below.setCell ?_ ?_ _ | with_reducible refine Below.alloc ?_ ?_ _ | omega | (simp; done) | (simp; omega)))⟩

set_option maxRecDepth 10000 in
set_option maxHeartbeats 2000000 in
theorem spansAre_any (l : List (Pc Unit)) (A : Option Addr) (c : Nat) (w : World) (hl : RowAt encU 2 w w.heap.size A l) (hm : l.length ≤ 1000000) :
    Calls Tryd.prog 31 #[.slice A l.length c] w fun e w' => (∃ b, e = .returned (.bool b) ∧ (b = true ↔ ∀ p ∈ l, ValidS MD p)) ∧ Below w.heap.size w w' := by
  have HL := Lib.hid hl
  clear hl
  go_enter Tryd.func31, Tryd.ntmps31
  go_wp2_with fail
  go_loopw [3] (fun i wr => ∃ k : Nat, k ≤ l.length ∧ i = .int .i64 k ∧ Hid (∀ (j : Nat) p, l[j]? = some p → j < k → ValidS MD p) ∧ Below w.heap.size w wr) (fun i _ => l.length - (intOf i).toNat)
  case atStart => exact ⟨0, Nat.zero_le _, rfl, Lib.hid (fun j p _ h => by omega), Below.refl _ _⟩
  case round =>
    obtain ⟨k, hk, rfl, HK, hb⟩ := hrel
    have hz := hb.size
    by_cases hlt : k < l.length
    · obtain ⟨p, hp⟩ : ∃ p, l[k]? = some p := ⟨l[k], List.getElem?_eq_getElem hlt⟩
      obtain ⟨g, off, rfl, hg, k0, k1⟩ := cells2 (HL.out.below hb (Nat.le_refl _)) hp
      have HX := Lib.hid hp
      clear hp
      by_cases hv : ValidS MD p
      · have e1 : decide (0 ≤ p.f ∧ p.f < p.t ∧ p.t ≤ MD) = true := decide_eq_true hv
        have HV := Lib.hid hv
        clear hv
        go_wp2_with fail
        refine (isSpan_any p.f p.t _).mono ?_
        rintro e w1 ⟨rfl, hb1⟩
        rw [e1]
        go_wp2_with fail
        go_roundw
        case rel =>
          refine ⟨k + 1, by omega, by go_num, Lib.hid (fun j q hq hj => ?_), stepH hb hb1⟩
          rcases Nat.lt_or_ge j k with h | h
          · exact HK.out j q hq h
          · obtain rfl : j = k := by omega
            rw [HX.out] at hq; cases hq; exact HV.out
        case measure => simp [intOf]; omega
      · have e1 : decide (0 ≤ p.f ∧ p.f < p.t ∧ p.t ≤ MD) = false := decide_eq_false hv
        have HV := Lib.hid hv
        clear hv
        go_wp2_with fail
        refine (isSpan_any p.f p.t _).mono ?_
        rintro e w1 ⟨rfl, hb1⟩
        rw [e1]
        go_wp2_with fail
        go_ret
        exact ⟨⟨false, rfl, ⟨fun h => (by cases h), fun h => absurd (h p (List.mem_of_getElem? HX.out)) HV.out⟩⟩, stepH hb hb1⟩
    · obtain rfl : k = l.length := by omega
      go_wp2_with fail
      go_ret
      exact ⟨⟨true, rfl, ⟨fun _ p hp => by
        obtain ⟨j, hj, e⟩ := List.mem_iff_getElem.1 hp
        exact HK.out j p (by rw [List.getElem?_eq_getElem hj, e]) hj, fun _ => rfl⟩⟩, hb⟩

end Go.Proofs.YtmodofbelpaelaaDoor
