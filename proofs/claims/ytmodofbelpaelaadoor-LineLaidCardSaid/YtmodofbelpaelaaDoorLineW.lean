/- The document's timelines: Cuts, At, Same; told, is: walks. -/
import Derived.Test.YtmodofbelpaelaaDoorLineV
namespace Go.Proofs.YtmodofbelpaelaaDoor
open Go.RowKit

/-- where the pieces begin and end, put among days -/
def cutsR (l : List (Pc Int)) (o : List Int) : List Int := l.foldl (fun o p => putL (putL o p.f) p.t) o
theorem cutsR_snoc {l : List (Pc Int)} {k : Nat} {p : Pc Int} {o : List Int} (hp : l[k]? = some p) : cutsR (l.take (k + 1)) o = putL (putL (cutsR (l.take k) o) p.f) p.t := by
  unfold cutsR
  rw [take_snoc hp, List.foldl_append]; rfl
theorem cutsR_len (l : List (Pc Int)) (o : List Int) : (cutsR l o).length ≤ o.length + 2 * l.length := by
  induction l generalizing o with
  | nil => exact Nat.le_refl _
  | cons p r ih =>
    have h := ih (putL (putL o p.f) p.t)
    have h1 := putL_len (putL o p.f) p.t
    have h2 := putL_len o p.f
    show (cutsR r (putL (putL o p.f) p.t)).length ≤ _
    rw [List.length_cons]
    omega
theorem cutsR_rise {l : List (Pc Int)} {o : List Int} (h : o.Pairwise (· < ·)) : (cutsR l o).Pairwise (· < ·) := by
  induction l generalizing o with
  | nil => exact h
  | cons p r ih => exact ih (putL_rise (putL_rise h))
theorem cutsR_mem {l : List (Pc Int)} {o : List Int} {x : Int} : x ∈ cutsR l o ↔ x ∈ o ∨ ∃ p ∈ l, x = p.f ∨ x = p.t := by
  induction l generalizing o with
  | nil => simp [cutsR]
  | cons p r ih =>
    show x ∈ cutsR r (putL (putL o p.f) p.t) ↔ _
    rw [ih, putL_mem, putL_mem]
    constructor
    · rintro ((h | h | h) | ⟨q, hq, h⟩)
      · exact .inr ⟨p, List.mem_cons_self .., .inr h⟩
      · exact .inr ⟨p, List.mem_cons_self .., .inl h⟩
      · exact .inl h
      · exact .inr ⟨q, List.mem_cons_of_mem _ hq, h⟩
    · rintro (h | ⟨q, hq, h⟩)
      · exact .inl (.inr (.inr h))
      · rcases List.mem_cons.1 hq with rfl | hq
        · rcases h with h | h
          · exact .inl (.inr (.inl h))
          · exact .inl (.inl h)
        · exact .inr ⟨q, hq, h⟩

set_option maxRecDepth 10000 in
set_option maxHeartbeats 4000000 in
theorem cutsR_any (l : List (Pc Int)) (o : List Int) (A : Option Addr) (c : Nat) (v : Value) (base : Nat) (w : World) (hb : base ≤ w.heap.size) (hl : RowAt encP 3 w base A l) (ho : Own encI 1 3 base w v o) (hm : l.length ≤ 200000) (hm2 : o.length ≤ 10000) :
    Calls Tryd.prog 115 #[.slice A l.length c, v] w fun e w' => (∃ v', e = .returned v' ∧ Own encI 1 3 base w' v' (cutsR l o)) ∧ Below base w w' := by
  have HL := Lib.hid hl
  have HO := Lib.hid ho
  clear hl ho
  go_enter Tryd.func115, Tryd.ntmps115
  go_wp2_with fail
  go_loopw [1, 5] (fun u i wr => ∃ k : Nat, k ≤ l.length ∧ i = .int .i64 k ∧ Hid (Own encI 1 3 base wr u (cutsR (l.take k) o)) ∧ Below base w wr) (fun _ i _ => l.length - (intOf i).toNat)
  case atStart => exact ⟨0, Nat.zero_le _, rfl, HO, Below.refl _ _⟩
  case round =>
    obtain ⟨k, hk, rfl, HU, hw0⟩ := hrel
    have z0 := hw0.size
    have hlen := cutsR_len (l.take k) o
    rw [List.length_take, Nat.min_eq_left hk] at hlen
    by_cases hlt : k < l.length
    · obtain ⟨p, hp⟩ : ∃ p, l[k]? = some p := ⟨l[k], List.getElem?_eq_getElem hlt⟩
      obtain ⟨g, off, rfl, hg, j0, j1, j2⟩ := cells3 (HL.out.below hw0 (Nat.le_refl _)) hp
      have hlt2 : (k : Int) < (l.length : Int) := by omega
      have HP := Lib.hid hp
      clear hp
      go_wp2_with fail
      refine (put6_any (cutsR (l.take k) o) p.f _ base wr (by omega) HU.out (by omega)).mono ?_
      rintro e w1 ⟨⟨v1, rfl, hown1⟩, hb1⟩
      have hw1 : Below base w w1 := hw0.trans hb1
      have z1 := hw1.size
      have HO1 := Lib.hid hown1
      have hlen1 := putL_len (cutsR (l.take k) o) p.f
      have j1' : w1.cell? ⟨g, off + k * 3 + 1, none⟩ = some (.int .i64 p.t) := (hb1.cell (p := ⟨g, off + k * 3 + 1, none⟩) hg).trans j1
      clear hb1 hown1 j0 j1 j2
      go_wp2_with fail
      refine (put6_any (putL (cutsR (l.take k) o) p.f) p.t _ base w1 (by omega) HO1.out (by omega)).mono ?_
      rintro e w2 ⟨⟨v2, rfl, hown2⟩, hb2⟩
      have hw2 : Below base w w2 := hw1.trans hb2
      have HO2 := Lib.hid hown2
      clear hb2 hown2 j1'
      go_wp2_with fail
      go_roundw
      case rel => exact ⟨k + 1, by omega, by go_num, by rw [cutsR_snoc HP.out]; exact HO2, hw2⟩
      case measure => simp [intOf]; omega
    · obtain rfl : k = l.length := by omega
      go_wp2_with fail
      go_ret
      refine ⟨⟨_, rfl, ?_⟩, hw0⟩
      have h := HU.out
      rw [List.take_length] at h
      exact h

set_option maxRecDepth 10000 in
set_option maxHeartbeats 4000000 in
theorem refAt6_any (l : List (Pc Int)) (A : Option Addr) (c : Nat) (n : Int) (w : World) (hl : RowAt encP 3 w w.heap.size A l) (hm : l.length ≤ 1000000) :
    Calls Tryd.prog 116 #[.slice A l.length c, .int .i64 n] w fun e w' => e = .returned (.tuple #[.int .i64 (vN (valL l.reverse n)), .bool (vB6 (valL l.reverse n))]) ∧ Below w.heap.size w w' := by
  have HL := Lib.hid hl
  obtain ⟨o, ho⟩ : ∃ o, valL l.reverse n = o := ⟨_, rfl⟩
  rw [ho]
  have HO := Lib.hid ho
  clear hl ho
  go_enter Tryd.func116, Tryd.ntmps116
  go_wp2_with fail
  go_loopw [6] (fun i wr => ∃ k : Nat, k ≤ l.length ∧ i = .int .i64 ((k : Int) - 1) ∧ Hid (valL (l.take k).reverse n = o) ∧ Below w.heap.size w wr) (fun i _ => (intOf i + 1).toNat)
  case atStart => exact ⟨l.length, Nat.le_refl _, rfl, by rw [List.take_length]; exact HO, Below.refl _ _⟩
  case round =>
    obtain ⟨k, hk, rfl, HK, hw0⟩ := hrel
    have z0 := hw0.size
    cases k with
    | zero =>
      obtain rfl : o = none := by rw [← HK.out]; rfl
      go_wp2_with fail
      go_ret2
      exact ⟨rfl, hw0⟩
    | succ k =>
      obtain ⟨p, hp⟩ : ∃ p, l[k]? = some p := ⟨l[k]'(by omega), List.getElem?_eq_getElem _⟩
      obtain ⟨g, off, rfl, hg, j0, j1, j2⟩ := cells3 (HL.out.below hw0 (Nat.le_refl _)) hp
      have hlt2 : (k : Int) < (l.length : Int) := by omega
      have e0 : ((k + 1 : Nat) : Int) - 1 = (k : Int) := by omega
      have e1 : (0 : Int) ≤ (k : Int) := by omega
      have HS : Hid (o = if p.f ≤ n ∧ n < p.t then some p.v else valL (l.take k).reverse n) := by
        show _ = _
        rw [← HK.out, take_snoc hp, List.reverse_append]; rfl
      rw [e0]
      clear hp HK e0
      by_cases h1 : p.f ≤ n
      · have d1 : decide (p.f ≤ n) = true := decide_eq_true h1
        by_cases h2 : n < p.t
        · have d2 : decide (n < p.t) = true := decide_eq_true h2
          obtain rfl : o = some p.v := by rw [HS.out, if_pos ⟨h1, h2⟩]
          clear h1 h2 HS
          go_wp2_with fail
          go_ret2
          exact ⟨rfl, hw0⟩
        · have d2 : decide (n < p.t) = false := decide_eq_false h2
          have HK2 : Hid (valL (l.take k).reverse n = o) := by show _ = _; rw [HS.out, if_neg (fun h => h2 h.2)]
          clear h1 h2 HS
          go_wp2_with fail
          go_roundw
          case rel => exact ⟨k, by omega, rfl, HK2, hw0⟩
          case measure => simp [intOf]
      · have d1 : decide (p.f ≤ n) = false := decide_eq_false h1
        have HK2 : Hid (valL (l.take k).reverse n = o) := by show _ = _; rw [HS.out, if_neg (fun h => h1 h.1)]
        clear h1 HS
        go_wp2_with fail
        go_roundw
        case rel => exact ⟨k, by omega, rfl, HK2, hw0⟩
        case measure => simp [intOf]

end Go.Proofs.YtmodofbelpaelaaDoor
