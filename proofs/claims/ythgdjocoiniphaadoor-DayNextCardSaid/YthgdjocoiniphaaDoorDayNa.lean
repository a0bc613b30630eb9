/- Parse, Weekday, and the walk of DayNext. -/
import Derived.Test.YthgdjocoiniphaaDoorCalD
import Derived.Test.YthgdjocoiniphaaDoorDayE
namespace Go.Proofs.YthgdjocoiniphaaDoor
open Go.RowKit
set_option maxRecDepth 100000 in
set_option maxHeartbeats 8000000 in
theorem parse_dig (a b c d e f g h : Nat) (n : Int) (k : Nat) (w : World) (ha : a < 10) (hb : b < 10) (hc : c < 10) (hd : d < 10) (he : e < 10) (hf : f < 10) (hg : g < 10) (hh : h < 10) 
   (hdate : DateIs n (1000 * a + 100 * b + 10 * c + d) k (10 * g + h)) (hk : 10 * e + f = k + 1) (hT : Tabs w) :
    Calls Tryd.prog 69 #[strV (digS a b c d e f g h)] w fun x w' => x = .returned (.tuple #[.int .i64 n, .nilIface]) ∧ Below w.heap.size w w' := by
  have HO := Lib.hid (fun (w' : World) (hb : Below w.heap.size w w') => of_ok n _ _ k w' hdate (hT.below hb))
  have HK := Lib.hid hk
  have va := dig_val ha
  have vb := dig_val hb
  have vc := dig_val hc
  have vd := dig_val hd
  have ve := dig_val he
  have vf := dig_val hf
  have vg := dig_val hg
  have vh := dig_val hh
  clear hT hdate hk
  obtain ⟨bs, hbs⟩ : ∃ bs : ByteArray, (⟨(digS a b c d e f g h).toArray⟩ : ByteArray) = bs := ⟨_, rfl⟩
  have hsz : bs.size = 10 := by rw [← hbs]; rfl
  have i0 : ∀ hh, (bs[0]'hh) = dig a := by subst hbs; exact fun _ => rfl
  have i1 : ∀ hh, (bs[1]'hh) = dig b := by subst hbs; exact fun _ => rfl
  have i2 : ∀ hh, (bs[2]'hh) = dig c := by subst hbs; exact fun _ => rfl
  have i3 : ∀ hh, (bs[3]'hh) = dig d := by subst hbs; exact fun _ => rfl
  have i4 : ∀ hh, (bs[4]'hh) = 45 := by subst hbs; exact fun _ => rfl
  have i5 : ∀ hh, (bs[5]'hh) = dig e := by subst hbs; exact fun _ => rfl
  have i6 : ∀ hh, (bs[6]'hh) = dig f := by subst hbs; exact fun _ => rfl
  have i7 : ∀ hh, (bs[7]'hh) = 45 := by subst hbs; exact fun _ => rfl
  have i8 : ∀ hh, (bs[8]'hh) = dig g := by subst hbs; exact fun _ => rfl
  have i9 : ∀ hh, (bs[9]'hh) = dig h := by subst hbs; exact fun _ => rfl
  unfold strV
  rw [hbs]
  clear hbs
  go_enter Tryd.func69, Tryd.ntmps69
  go_wp2_with fail
  refine wp_loop_rounds 11 ?_
  rw [rounds_succ]
  go_wp2_with fail
  rw [rounds_succ]
  go_wp2_with fail
  rw [rounds_succ]
  go_wp2_with fail
  rw [rounds_succ]
  go_wp2_with fail
  rw [rounds_succ]
  go_wp2_with fail
  rw [rounds_succ]
  go_wp2_with fail
  rw [rounds_succ]
  go_wp2_with fail
  rw [rounds_succ]
  go_wp2_with fail
  rw [rounds_succ]
  go_wp2_with fail
  rw [rounds_succ]
  go_wp2_with fail
  rw [rounds_succ]
  go_wp2_with fail
  have eY : (10 * (10 * (10 * (48 + (a : Int) - 48) + (48 + (b : Int) - 48)) + (48 + (c : Int) - 48)) + (48 + (d : Int) - 48)) = 1000 * (a : Int) + 100 * b + 10 * c + d := by omega
  have eM : (10 * (48 + (e : Int) - 48) + (48 + (f : Int) - 48)) = (k : Int) + 1 := by have := HK.out; omega
  have eD : (10 * (48 + (g : Int) - 48) + (48 + (h : Int) - 48)) = 10 * (g : Int) + h := by omega
  rw [eY, eM, eD]
  refine (HO.out _ (by (repeat' (first | with_reducible exact Below.refl _ _ | with_reducible assumption | with_reducible refine Below.drew ?_ | with_reducible refine below_drewN ?_ _ | with_reducible refine Below.setCell ?_ ?_ _ | with_reducible refine Below.alloc ?_ ?_ _ | omega | (simp; done) | (simp; omega))))).mono ?_
  rintro x w1 ⟨rfl, hb1⟩
  have hw1 : Below w.heap.size w w1 := stepH (by (repeat' (first | with_reducible exact Below.refl _ _ | with_reducible assumption | with_reducible refine Below.drew ?_ | with_reducible refine below_drewN ?_ _ | with_reducible refine Below.setCell ?_ ?_ _ | with_reducible refine Below.alloc ?_ ?_ _ | omega | (simp; done) | (simp; omega)))) hb1
  clear hb1
  go_wp2_with fail
  go_ret2
  exact ⟨rfl, hw1⟩

theorem date_digs {n y d : Int} {k : Nat} (h : DateIs n y k d) : ∃ yN dN : Nat, y = yN ∧ d = dN ∧ yN < 10000 ∧ dN < 100 ∧ k + 1 < 100 := by
  have h1 := h.year
  have h2 := h.day
  have h3 := lenK_pos y h.month
  have h4 := h.month
  exact ⟨y.toNat, d.toNat, by omega, by omega, by omega, by omega, by omega⟩
theorem dateS_len {n y d : Int} {k : Nat} (h : DateIs n y k d) : (dateS y k d).length = 10 := by
  obtain ⟨yN, dN, rfl, rfl, h1, h2, h3⟩ := date_digs h
  rw [dateS_digs yN k dN h1 h3 h2]
  rfl
theorem parse_date (n y d : Int) (k : Nat) (w : World) (h : DateIs n y k d) (hT : Tabs w) :
    Calls Tryd.prog 69 #[strV (dateS y k d)] w fun x w' => x = .returned (.tuple #[.int .i64 n, .nilIface]) ∧ Below w.heap.size w w' := by
  obtain ⟨yN, dN, rfl, rfl, h1, h2, h3⟩ := date_digs h
  rw [dateS_digs yN k dN h1 h3 h2]
  have e1 : (1000 * ((yN / 1000 : Nat) : Int) + 100 * ((yN / 100 % 10 : Nat) : Int) + 10 * ((yN / 10 % 10 : Nat) : Int) + ((yN % 10 : Nat) : Int)) = (yN : Int) := by omega
  have e2 : (10 * ((dN / 10 : Nat) : Int) + ((dN % 10 : Nat) : Int)) = (dN : Int) := by omega
  exact parse_dig _ _ _ _ _ _ _ _ n k w (by omega) (by omega) (by omega) (by omega) (by omega) (by omega) (by omega) (by omega) (by rw [e1, e2]; exact h) (by omega) hT

theorem weekday_ok (n : Int) (w : World) (h0 : 0 ≤ n) (h9 : n < 3652059) : Calls Tryd.prog 70 #[.int .i64 n] w fun x w' => x = .returned (.tuple #[.int .i64 (n % 7), .nilIface]) ∧ Below w.heap.size w w' := by
  have e : n.tmod 7 = n % 7 := Int.tmod_eq_emod_of_nonneg h0
  go_enter Tryd.func70, Tryd.ntmps70
  go_wp2_with fail
  refine (isDay_yes n _ h0 h9).mono ?_
  rintro x w1 ⟨rfl, hw1⟩
  go_wp2_with fail
  go_ret2
  exact ⟨rfl, hw1⟩

end Go.Proofs.YthgdjocoiniphaaDoor
