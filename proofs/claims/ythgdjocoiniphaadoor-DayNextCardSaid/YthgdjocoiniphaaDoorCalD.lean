/- A date's text: its digits: plain law. -/
import Derived.Test.YthgdjocoiniphaaDoorCalC
namespace Go.Proofs.YthgdjocoiniphaaDoor
open Go.RowKit

/-- a digit's byte -/
def dig (q : Nat) : UInt8 := UInt8.ofNat (48 + q)
theorem itoa_1 {n : Nat} (h : n < 10) : Lib.itoa n = [dig n] := by rw [Lib.itoa_nonneg, Lib.decDigits_one h]; rfl
theorem itoa_2 {n : Nat} (h1 : ¬ n < 10) (h : n < 100) : Lib.itoa n = [dig (n / 10), dig (n % 10)] := by rw [Lib.itoa_nonneg, Lib.decDigits_two h1 h]; rfl
theorem dec_step {n : Nat} (h : ¬ n < 10) : Lib.decDigits n = Lib.decDigits (n / 10) ++ [dig (n % 10)] := by
  rw [Lib.decDigits, dif_neg h]
  rfl
theorem itoa_3 {n : Nat} (h1 : ¬ n < 100) (h : n < 1000) : Lib.itoa n = [dig (n / 100), dig (n / 10 % 10), dig (n % 10)] := by
  have h2 := itoa_2 (n := n / 10) (by omega) (by omega)
  rw [Lib.itoa_nonneg] at h2
  rw [Lib.itoa_nonneg, dec_step (by omega), h2, Nat.div_div_eq_div_mul]
  rfl
theorem itoa_4 {n : Nat} (h1 : ¬ n < 1000) (h : n < 10000) : Lib.itoa n = [dig (n / 1000), dig (n / 100 % 10), dig (n / 10 % 10), dig (n % 10)] := by
  have h2 := itoa_3 (n := n / 10) (by omega) (by omega)
  rw [Lib.itoa_nonneg] at h2
  rw [Lib.itoa_nonneg, dec_step (by omega), h2, Nat.div_div_eq_div_mul, Nat.div_div_eq_div_mul]
  rfl
theorem pad4 {n : Nat} (h : n < 10000) : padL 4 (Lib.itoa n) = [dig (n / 1000), dig (n / 100 % 10), dig (n / 10 % 10), dig (n % 10)] := by
  by_cases h1 : n < 10
  · rw [itoa_1 h1, show n / 1000 = 0 by omega, show n / 100 % 10 = 0 by omega, show n / 10 % 10 = 0 by omega, show n % 10 = n by omega]; rfl
  · by_cases h2 : n < 100
    · rw [itoa_2 h1 h2, show n / 1000 = 0 by omega, show n / 100 % 10 = 0 by omega, show n / 10 % 10 = n / 10 by omega]; rfl
    · by_cases h3 : n < 1000
      · rw [itoa_3 h2 h3, show n / 1000 = 0 by omega, show n / 100 % 10 = n / 100 by omega]; rfl
      · rw [itoa_4 h3 h]; rfl
theorem pad2 {n : Nat} (h : n < 100) : padL 2 (Lib.itoa n) = [dig (n / 10), dig (n % 10)] := by
  by_cases h1 : n < 10
  · rw [itoa_1 h1, show n / 10 = 0 by omega, show n % 10 = n by omega]; rfl
  · rw [itoa_2 h1 h]; rfl

/-- a date's text, digit by digit -/
def digS (a b c d e f g h : Nat) : List UInt8 := [dig a, dig b, dig c, dig d, 45, dig e, dig f, 45, dig g, dig h]
theorem dateS_digs (y m d : Nat) (hy : y < 10000) (hm : m + 1 < 100) (hd : d < 100) : dateS y m d = digS (y / 1000) (y / 100 % 10) (y / 10 % 10) (y % 10) ((m + 1) / 10) ((m + 1) % 10) (d / 10) (d % 10) := by
  unfold dateS digS
  rw [pad4 hy, show (m : Int) + 1 = ((m + 1 : Nat) : Int) by omega, pad2 hm, pad2 hd]
  rfl

theorem dig_val {q : Nat} (h : q < 10) : ((dig q).toNat : Int) = 48 + q := by
  unfold dig
  rw [UInt8.toNat_ofNat']
  omega

end Go.Proofs.YthgdjocoiniphaaDoor
