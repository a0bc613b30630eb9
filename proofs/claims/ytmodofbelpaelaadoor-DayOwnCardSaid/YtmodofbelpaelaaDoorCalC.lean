/- The calendar: padded, Print: walks. -/
import Derived.Test.YtmodofbelpaelaaDoorCalB
import Derived.Lib.ItoaLen
namespace Go.Proofs.YtmodofbelpaelaaDoor
open Go.RowKit

/-- zeros ahead -/
def padL (k : Nat) (s : List UInt8) : List UInt8 := List.replicate (k - s.length) 48 ++ s
theorem padL_len (k : Nat) (s : List UInt8) : (padL k s).length = max k s.length := by simp [padL]; omega
theorem padL_done {k : Nat} {s : List UInt8} (h : k ≤ s.length) : padL k s = s := by simp [padL, show k - s.length = 0 by omega]
theorem padL_step {k : Nat} {s : List UInt8} (h : s.length < k) : padL k (48 :: s) = padL k s := by
  unfold padL
  rw [show k - s.length = (k - (48 :: s).length) + 1 by simp; omega, List.replicate_succ']
  simp

theorem grown_b (w : World) (n : Nat) (os : Array Obj) : Below w.heap.size w (Sort.grow (w.drewN n) os) :=
  ⟨rfl, rfl, rfl, by simp [Sort.grow], fun k hk => Sort.heap_grow_old _ _ (by simpa using hk)⟩
theorem bytes_app (a b : List UInt8) : (⟨a.toArray⟩ : ByteArray) ++ ⟨b.toArray⟩ = ⟨(a ++ b).toArray⟩ := by
  apply ByteArray.ext
  simp [ByteArray.data_append]

/-- a text -/
def strV (s : List UInt8) : Value := .string ⟨s.toArray⟩

set_option maxHeartbeats 4000000 in
theorem padded_any (n : Int) (many : Nat) (w : World) (h0 : -9223372036854775808 ≤ n) (h1 : n ≤ 9223372036854775807) (hm : many ≤ 1000) (hs : (Lib.itoa n).length ≤ 1000) (hT : Tabs w) :
    Calls Tryd.prog 126 #[.int .i64 n, .int .i64 many] w fun e w' => e = .returned (strV (padL many (Lib.itoa n))) ∧ Below w.heap.size w w' := by
  have HT := Lib.hid hT
  obtain ⟨s0, hs0⟩ : ∃ s0, Lib.itoa n = s0 := ⟨_, rfl⟩
  have hcon := Tryd.strconv_Itoa n h0 h1 w hT.pow
  rw [hs0] at hcon hs ⊢
  have HC := Lib.hid hcon
  clear hT hcon hs0
  go_enter Tryd.func126, Tryd.ntmps126
  go_wp2_with fail
  refine HC.out.mono ?_
  rintro e w1 ⟨rfl, q, os, rfl⟩
  have hw1 : Below w.heap.size w (Sort.grow (w.drewN q) os) := grown_b w q os
  obtain ⟨w1, e1⟩ : ∃ w1, Sort.grow (w.drewN q) os = w1 := ⟨_, rfl⟩
  rw [e1] at hw1 ⊢
  clear e1
  go_wp2_with fail
  go_loopw [5] (fun v wr => ∃ s : List UInt8, v = strV s ∧ s.length ≤ 2000 ∧ Hid (padL many s = padL many s0) ∧ Below w.heap.size w wr) (fun v _ => many - (match v with | .string b => b.size | _ => 0))
  case atStart => exact ⟨s0, rfl, by omega, rfl, hw1⟩
  case round =>
    obtain ⟨s, rfl, hl, hp, hwr⟩ := hrel
    unfold strV
    by_cases hlt : s.length < many
    · have e1 : decide ((s.length : Int) < (many : Int)) = true := decide_eq_true (by omega)
      go_wp2_with fail
      refine ⟨⟨48 :: s, by rw [show (⟨#[48]⟩ : ByteArray) ++ ⟨s.toArray⟩ = ⟨(48 :: s).toArray⟩ from bytes_app [48] s], by simp; omega, (by show _ = _; rw [padL_step hlt]; exact hp.out), hwr⟩, ?_⟩
      rw [show (⟨#[48]⟩ : ByteArray) ++ ⟨s.toArray⟩ = ⟨(48 :: s).toArray⟩ from bytes_app [48] s]
      show many - (48 :: s).toArray.size < many - s.toArray.size
      simp
      omega
    · have e1 : decide ((s.length : Int) < (many : Int)) = false := decide_eq_false (by omega)
      have hd : Hid (s = padL many s0) := by show _ = _; rw [← hp.out, padL_done (by omega)]
      go_wp2_with fail
      go_ret
      exact ⟨by rw [← hd.out]; rfl, hwr⟩

/-- a date's text -/
def dateS (y : Int) (k : Nat) (d : Int) : List UInt8 := padL 4 (Lib.itoa y) ++ [45] ++ padL 2 (Lib.itoa ((k : Int) + 1)) ++ [45] ++ padL 2 (Lib.itoa d)

theorem itoa_len {n : Int} (h0 : 0 ≤ n) (h1 : n < 10000) : (Lib.itoa n).length ≤ 21 := Lib.itoa_length_le n (by omega) (by omega)

set_option maxRecDepth 10000 in
set_option maxHeartbeats 4000000 in
theorem print_ok (n : Int) (w : World) (h0 : 0 ≤ n) (h9 : n < 3652059) (hT : Tabs w) : Calls Tryd.prog 90 #[.int .i64 n] w fun e w' => (∃ (y d : Int) (k : Nat), e = .returned (.tuple #[strV (dateS y k d), .nilIface]) ∧ DateIs n y k d) ∧ Below w.heap.size w w' := by
  have HT := Lib.hid hT
  have HP := Lib.hid (fun (n : Int) (m : Nat) (w' : World) (h0 : 0 ≤ n) (h1 : n < 10000) (hm : m ≤ 20) (hb : Below w.heap.size w w') => padded_any n m w' (by omega) (by omega) (by omega) (by have := itoa_len h0 h1; omega) (hT.below hb))
  clear hT
  go_enter Tryd.func90, Tryd.ntmps90
  go_wp2_with fail
  refine (date_ok n w h0 h9 HT.out).mono ?_
  rintro e w1 ⟨⟨y, d, k, rfl, hd⟩, hw1⟩
  have HD := Lib.hid hd
  have hlk := lenK_pos y hd.month
  obtain ⟨⟨y1, y2⟩, hk, ⟨d1, d2⟩, _⟩ := hd
  go_wp2_with fail
  refine (HP.out y 4 w1 (by omega) (by omega) (by omega) hw1).mono ?_
  rintro e w2 ⟨rfl, hb⟩
  have hw2 : Below w.heap.size w w2 := stepH hw1 hb
  clear hb
  obtain ⟨s0, hs0⟩ : ∃ s, padL 4 (Lib.itoa y) = s := ⟨_, rfl⟩
  have hl0 : s0.length ≤ 30 := by have := itoa_len (n := y) (by omega) (by omega); rw [← hs0, padL_len]; omega
  have HS0 := Lib.hid hs0
  rw [hs0]
  clear hs0
  unfold strV
  go_wp2_with fail
  refine (HP.out ((k : Int) + 1) 2 w2 (by omega) (by omega) (by omega) hw2).mono ?_
  rintro e w3 ⟨rfl, hb⟩
  have hw3 : Below w.heap.size w w3 := stepH hw2 hb
  clear hb
  obtain ⟨s1, hs1⟩ : ∃ s, padL 2 (Lib.itoa ((k : Int) + 1)) = s := ⟨_, rfl⟩
  have hl1 : s1.length ≤ 30 := by have := itoa_len (n := ((k : Int) + 1)) (by omega) (by omega); rw [← hs1, padL_len]; omega
  have HS1 := Lib.hid hs1
  rw [hs1]
  clear hs1
  unfold strV
  go_wp2_with fail
  refine (HP.out d 2 w3 (by omega) (by omega) (by omega) hw3).mono ?_
  rintro e w4 ⟨rfl, hb⟩
  have hw4 : Below w.heap.size w w4 := stepH hw3 hb
  clear hb
  obtain ⟨s2, hs2⟩ : ∃ s, padL 2 (Lib.itoa d) = s := ⟨_, rfl⟩
  have hl2 : s2.length ≤ 30 := by have := itoa_len (n := d) (by omega) (by omega); rw [← hs2, padL_len]; omega
  have HS2 := Lib.hid hs2
  rw [hs2]
  clear hs2
  unfold strV
  go_wp2_with fail
  go_ret2
  refine ⟨⟨y, d, k, ?_, HD.out⟩, hw4⟩
  have e : strV (dateS y k d) = .string ((⟨s0.toArray⟩ : ByteArray) ++ ⟨#[45]⟩ ++ ⟨s1.toArray⟩ ++ ⟨#[45]⟩ ++ ⟨s2.toArray⟩) := by
    unfold strV dateS
    rw [HS0.out, HS1.out, HS2.out, show (⟨#[45]⟩ : ByteArray) = ⟨[45].toArray⟩ from rfl, bytes_app, bytes_app, bytes_app, bytes_app]
  rw [e]
  rfl

end Go.Proofs.YtmodofbelpaelaaDoor
