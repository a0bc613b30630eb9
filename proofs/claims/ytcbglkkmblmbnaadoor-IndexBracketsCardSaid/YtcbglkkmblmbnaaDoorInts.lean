/- Slices of whole numbers. -/
import Derived.Test.YtcbglkkmblmbnaaDoorRoundA
import Derived.Test.YtcbglkkmblmbnaaDoorSlice
import Derived.OwnWalk
namespace Go.Proofs.YtcbglkkmblmbnaaDoor
open Go.RowKit

def encI (x : Int) : List Value := [.int .i64 x]
theorem encI_len (x : Int) : (encI x).length = 1 := rfl
/-- a number of Go's int -/
def InI (x : Int) : Prop := -9223372036854775808 ≤ x ∧ x ≤ 9223372036854775807
theorem infoInt : (Tryd.prog.info? 3).map (fun i => (i.zero, i.size, i.bytes)) = some (some (.int .i64 0), 1, 8) := by kernel_rfl
theorem takeI_snoc {α : Type} {l : List α} {k : Nat} {x : α} (hx : l[k]? = some x) : l.take (k + 1) = l.take k ++ [x] := by
  rw [List.take_add_one, hx]; rfl

/-- the sum of the first k -/
def psum (l : List Int) (k : Nat) : Int := (l.take k).sum
theorem psum_zero (l : List Int) : psum l 0 = 0 := rfl
theorem psum_succ {l : List Int} {k : Nat} {x : Int} (hx : l[k]? = some x) : psum l (k + 1) = psum l k + x := by
  unfold psum; rw [takeI_snoc hx, List.sum_append]; simp

set_option maxHeartbeats 1000000 in
theorem sameInts_yes (l : List Int) (n : Nat) (A B : Option Addr) (c d : Nat) (w : World) (hn : l.length = n) (hn2 : n ≤ 1000000) (hl : RowAt encI 1 w w.heap.size A l) (hm : RowAt encI 1 w w.heap.size B l) :
    Calls Tryd.prog 40 #[.slice A n c, .slice B n d] w fun e w' => e = .returned (.bool true) ∧ Below w.heap.size w w' := by
  have HL := Lib.hid hl
  have HM := Lib.hid hm
  have HN := Lib.hid hn
  clear hl hm hn
  go_enter Tryd.func40, Tryd.ntmps40
  go_wp2_with fail
  go_loopw [5] (fun i wr => ∃ k : Nat, k ≤ n ∧ i = .int .i64 k ∧ Below w.heap.size w wr) (fun i _ => n - (intOf i).toNat)
  case atStart => exact ⟨0, Nat.zero_le _, rfl, Below.refl _ _⟩
  case round =>
    obtain ⟨k, hk, rfl, hb⟩ := hrel
    by_cases hlt : k < n
    · obtain ⟨x, hx⟩ : ∃ x, l[k]? = some x := ⟨l[k]'(by rw [HN.out]; exact hlt), List.getElem?_eq_getElem _⟩
      obtain ⟨b, off, rfl, _, hc⟩ := HL.out.below hb (Nat.le_refl _) k _ hx
      obtain ⟨b', off', rfl, _, hc'⟩ := HM.out.below hb (Nat.le_refl _) k _ hx
      have c0 : wr.cell? ⟨b, off + k, none⟩ = some (.int .i64 x) := by have := hc 0 _ rfl; simpa using this
      have c1 : wr.cell? ⟨b', off' + k, none⟩ = some (.int .i64 x) := by have := hc' 0 _ rfl; simpa using this
      clear hc hc' hx
      go_wp2_with fail
      go_quiet (fail)
      go_wp2_with fail
      go_roundw
      case rel => exact ⟨k + 1, by omega, by go_num, below_drewN hb _⟩
      case measure => simp [intOf]; omega
    · go_wp2_with fail
      go_ret
      exact ⟨rfl, hb⟩

set_option maxHeartbeats 1000000 in
theorem ints_any (l : List Int) (n : Nat) (A : Option Addr) (c : Nat) (w : World) (h : l.length = n) (hl : RowAt encI 1 w w.heap.size A l) (hn : n ≤ 1000000) :
    Calls Tryd.prog 34 #[.slice A n c] w fun e w' => ∃ v, e = .returned v ∧ Own encI 1 3 w.heap.size w' v l ∧ Below w.heap.size w w' := by
  subst h
  obtain ⟨i0, hi, jz0, jz1, jz2⟩ := info_parts infoInt
  have HL := Lib.hid hl
  clear hl
  go_enter Tryd.func34, Tryd.ntmps34
  go_wp2_with (at_make; go_must (refine wpList_make_own _ rfl _ _ 22 rfl w.heap.size 3 i0 _ 1 Tryd.underlying22 hi jz0 jz1 .i64 .i64 _ l.length rfl rfl rfl (by rw [jz2]; omega) (by unfold maxLen; omega) (Nat.le_refl _) ?_); intro w0 hown0 hgrow0)
  have hb0 : Below w.heap.size w w0 := (Below.refl _ _).grown hgrow0 (Nat.le_refl _) (fun k h => by cases h)
  go_loopw [3, 4] (fun v i wr => ∃ k : Nat, k ≤ l.length ∧ i = .int .i64 k ∧ wr.ownsRow w.heap.size 3 1 v k ((l.take k).flatMap encI) ∧ Below w.heap.size w wr) (fun _ i _ => l.length - (intOf i).toNat)
  case atStart => exact ⟨0, Nat.zero_le _, rfl, hown0, hb0⟩
  case round =>
    obtain ⟨k, hk, rfl, hown, hb⟩ := hrel
    have hz := hb.size
    by_cases hlt : k < l.length
    · obtain ⟨x, hx⟩ : ∃ x, l[k]? = some x := ⟨l[k], List.getElem?_eq_getElem hlt⟩
      obtain ⟨b, off, rfl, _, hc⟩ := HL.out.below hb (Nat.le_refl _) k _ hx
      have c0 : wr.cell? ⟨b, off + k, none⟩ = some (.int .i64 x) := by have := hc 0 _ rfl; simpa using this
      have HX := Lib.hid hx
      clear hx hc
      go_wp2_with (at_builtin; go_must (refine wpList_append_own _ rfl (.tmp 14) (.tmp 19) 22 rfl w.heap.size 3 i0 _ 1 8 Tryd.underlying22 hi jz0 jz1 jz2 rfl (by decide) _ k _ rfl (hown.alloc _) ⟨wr.heap.size, 0, none⟩ 1 1 [.int .i64 x] rfl rfl (cell_one_new _ _ _) (by simp [Value.oneCell']) (by unfold maxLen; omega) (by omega) (by simp; omega) ?_); intro v' w1 hown' hgrow _)
      go_roundw
      case rel =>
        refine ⟨k + 1, by omega, by go_num, ?_, (Below.alloc hb hz _).grown hgrow (by simp; omega) (fun g hg => (hown.lt g hg).1)⟩
        rw [takeI_snoc HX.out, List.flatMap_append]; simpa [encI] using hown'
      case measure => simp [intOf]; omega
    · obtain rfl : k = l.length := by omega
      go_wp2
      go_ret
      exact ⟨_, rfl, by unfold Own; simpa using hown, hb⟩

end Go.Proofs.YtcbglkkmblmbnaaDoor
