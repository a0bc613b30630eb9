/- The law's name: a walk. -/
import Derived.Test.YtodlbfekoohpoaaDoorBootH
namespace Go.Proofs.YtodlbfekoohpoaaDoor
open Go.RowKit

/-- the name of the i-th step -/
def nameS (i : Nat) : ByteArray := ((⟨#[115, 46]⟩ : ByteArray) ++ ⟨#[UInt8.ofNat (97 + i % 26)]⟩) ++ ⟨#[UInt8.ofNat (97 + i / 26 % 26)]⟩
theorem nameS_all : ((List.range 61).all fun i => nameB (nameS i) && decide ((nameS i).size ≤ 4)) = true := by kernel_rfl
theorem nameS_apart : ((List.range 61).all fun i => (List.range 61).all fun j => decide (nameS i = nameS j) == decide (i = j)) = true := by kernel_rfl
theorem nameS_ok {i : Nat} (h : i < 61) : nameB (nameS i) = true ∧ (nameS i).size ≤ maxLen := by
  have := List.all_eq_true.1 nameS_all i (List.mem_range.2 h)
  simp only [Bool.and_eq_true, decide_eq_true_eq] at this
  exact ⟨this.1, by unfold maxLen; omega⟩
theorem nameS_inj {i j : Nat} (hi : i < 61) (hj : j < 61) (h : nameS i = nameS j) : i = j := by
  have := List.all_eq_true.1 (List.all_eq_true.1 nameS_apart i (List.mem_range.2 hi)) j (List.mem_range.2 hj)
  rw [decide_eq_true h] at this
  simpa using this

theorem run_letter (c : Int) (h1 : 97 ≤ c) (h2 : c < 123) (w : World) : (convert 21 9 (.int .i32 c)).run Tryd.prog w = .ok (.string ⟨#[UInt8.ofNat c.toNat]⟩) w := by
  rcases (by omega : c = 97 ∨ c = 98 ∨ c = 99 ∨ c = 100 ∨ c = 101 ∨ c = 102 ∨ c = 103 ∨ c = 104 ∨ c = 105 ∨ c = 106 ∨ c = 107 ∨ c = 108 ∨ c = 109 ∨ c = 110 ∨ c = 111 ∨ c = 112 ∨ c = 113 ∨ c = 114 ∨ c = 115 ∨ c = 116 ∨ c = 117 ∨ c = 118 ∨ c = 119 ∨ c = 120 ∨ c = 121 ∨ c = 122) with rfl | rfl | rfl | rfl | rfl | rfl | rfl | rfl | rfl | rfl | rfl | rfl | rfl | rfl | rfl | rfl | rfl | rfl | rfl | rfl | rfl | rfl | rfl | rfl | rfl | rfl
  all_goals kernel_rfl

set_option maxRecDepth 100000 in
set_option maxHeartbeats 4000000 in
theorem nameL_any (i : Nat) (w : World) (hi : i < 61) : Calls Tryd.prog 22 #[.int .i64 i] w fun e w' => e = .returned (.string (nameS i)) ∧ Below w.heap.size w w' := by
  have HN : Hid (nameS i = ((⟨#[115, 46]⟩ : ByteArray) ++ ⟨#[UInt8.ofNat (97 + i % 26)]⟩) ++ ⟨#[UInt8.ofNat (97 + i / 26 % 26)]⟩) := rfl
  have q1 : (i : Int).tmod 26 = ((i % 26 : Nat) : Int) := by rw [Int.tmod_eq_emod_of_nonneg (by omega)]; omega
  have q2 : (i : Int).tdiv 26 = ((i / 26 : Nat) : Int) := by rw [Int.tdiv_eq_ediv_of_nonneg (by omega)]; omega
  have q3 : ((i / 26 : Nat) : Int).tmod 26 = ((i / 26 % 26 : Nat) : Int) := by rw [Int.tmod_eq_emod_of_nonneg (by omega)]; omega
  obtain ⟨a, ha⟩ : ∃ a, i % 26 = a := ⟨_, rfl⟩
  obtain ⟨d, hd⟩ : ∃ d, i / 26 = d := ⟨_, rfl⟩
  rw [hd] at q2 q3 HN
  obtain ⟨c, hc⟩ : ∃ c, d % 26 = c := ⟨_, rfl⟩
  rw [ha] at q1 HN
  rw [hc] at q3 HN
  have a1 : a < 26 := by omega
  have c1 : c < 26 := by omega
  have d1 : d < 3 := by omega
  obtain ⟨x, hx⟩ : ∃ x : Int, 97 + (a : Int) = x := ⟨_, rfl⟩
  obtain ⟨y, hy⟩ : ∃ y : Int, 97 + (c : Int) = y := ⟨_, rfl⟩
  have h1 := run_letter x (by omega) (by omega)
  have h2 := run_letter y (by omega) (by omega)
  have x1 : x.toNat = 97 + a := by omega
  have y1 : y.toNat = 97 + c := by omega
  rw [x1] at h1
  rw [y1] at h2
  clear ha hd hc x1 y1
  go_enter Tryd.func22, Tryd.ntmps22
  go_wp2_with fail
  go_ret
  exact ⟨by rw [HN.out, UInt8.ofNat_add, UInt8.ofNat_add]; rfl, by (repeat' (first | with_reducible exact Below.refl _ _ | with_reducible assumption | with_reducible refine Below.drew ?_ | with_reducible refine below_drewN ?_ _ | with_reducible refine Below.setCell ?_ ?_ _ | with_reducible refine Below.alloc ?_ ?_ _ | omega | (simp; done) | (simp; omega)))⟩

end Go.Proofs.YtodlbfekoohpoaaDoor
