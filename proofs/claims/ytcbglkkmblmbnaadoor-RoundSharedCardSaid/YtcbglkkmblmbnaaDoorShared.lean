/- The walk of RoundShared. -/
import Derived.Test.YtcbglkkmblmbnaaDoorShare
import Derived.Test.YtcbglkkmblmbnaaDoorFirst2
namespace Go.Proofs.YtcbglkkmblmbnaaDoor
open Go.RowKit

/-- what is known of the k-th part -/
theorem share_part {n : Int} {ws : List Int} (ok : shareOk n ws) {k : Nat} {x t : Int} (ht : psum ws ws.length = t) (hx : ws[k]? = some x) :
    -1000000000001 ≤ shareAt n ws k ∧ shareAt n ws k ≤ 1000000000001 ∧ shareAt n ws k * t - n * x < t ∧ -t < shareAt n ws k * t - n * x ∧ (x = 0 → shareAt n ws k = 0) ∧
    n * psum ws k / t + shareAt n ws k = n * psum ws (k + 1) / t ∧ 0 ≤ x ∧ x ≤ 1000 ∧ -100000000000000000 ≤ n * x ∧ n * x ≤ 100000000000000000 ∧ 0 < t ∧ t ≤ 100000 ∧
    -1000000000000 ≤ n * psum ws k / t ∧ n * psum ws k / t ≤ 1000000000000 ∧ -1000000000000 ≤ n * psum ws (k + 1) / t ∧ n * psum ws (k + 1) / t ≤ 1000000000000 := by
  obtain ⟨h100, n1, n2, hw, hp⟩ := ok
  have hk : k < ws.length := (List.getElem?_eq_some_iff.1 hx).1
  obtain ⟨x1, x2⟩ := hw x (List.mem_of_getElem? hx)
  have hs := psum_succ hx
  have pb : ∀ j, j ≤ ws.length → 0 ≤ psum ws j ∧ psum ws j ≤ t := fun j hj => ⟨(psum_bound hj (fun i y _ hy => hw y (List.mem_of_getElem? hy))).1, ht ▸ psum_mono (fun y hy => (hw y hy).1) j⟩
  have pt := (psum_bound (Nat.le_refl _) (fun i y _ hy => hw y (List.mem_of_getElem? hy))).2
  have a := pb k (by omega)
  have b := pb (k + 1) (by omega)
  rw [ht] at hp pt
  have hx2 := part_bound n1 n2 (s := x) (t := t) x1 (by omega) hp (by omega)
  have q1 := part_bound n1 n2 a.1 a.2 hp (by omega)
  have q2 := part_bound n1 n2 b.1 b.2 hp (by omega)
  have e1 := Int.mul_ediv_add_emod (n * psum ws k) t
  have e2 := Int.mul_ediv_add_emod (n * psum ws (k + 1)) t
  have r1 := Int.emod_nonneg (n * psum ws k) (show t ≠ 0 by omega)
  have r2 := Int.emod_lt_of_pos (n * psum ws k) hp
  have r3 := Int.emod_nonneg (n * psum ws (k + 1)) (show t ≠ 0 by omega)
  have r4 := Int.emod_lt_of_pos (n * psum ws (k + 1)) hp
  have hn : n * psum ws (k + 1) = n * psum ws k + n * x := by rw [hs, Int.mul_add]
  unfold shareAt
  rw [ht]
  have h2 : (n * psum ws (k + 1) / t - n * psum ws k / t) * t = t * (n * psum ws (k + 1) / t) - t * (n * psum ws k / t) := by rw [Int.sub_mul, Int.mul_comm, Int.mul_comm (n * psum ws k / t)]
  refine ⟨?_, ?_, by omega, by omega, fun h0 => ?_, by omega, x1, x2, hx2.1, hx2.2.1, hp, by omega, q1.2.2.1, q1.2.2.2, q2.2.2.1, q2.2.2.2⟩
  · -- |n x| ≤ 10^12 t, the rest is less than t
    have hxt : -(1000000000000 * t) ≤ n * x := by
      have := Int.mul_le_mul_of_nonneg_right n1 x1
      omega
    have h3 : t * (-1000000000001) ≤ t * (n * psum ws (k + 1) / t - n * psum ws k / t) := by rw [Int.mul_sub]; omega
    exact Int.le_of_mul_le_mul_left h3 hp
  · have hxt : n * x ≤ 1000000000000 * t := by
      have := Int.mul_le_mul_of_nonneg_right n2 x1
      omega
    have h3 : t * (n * psum ws (k + 1) / t - n * psum ws k / t) ≤ t * 1000000000001 := by rw [Int.mul_sub]; omega
    exact Int.le_of_mul_le_mul_left h3 hp
  · rw [h0, Int.mul_zero, Int.add_zero] at hn
    rw [hn]; omega

set_option maxRecDepth 100000 in
set_option maxHeartbeats 8000000 in
theorem roundShared_walk (n : Int) (ws : List Int) (A : Option Addr) (c : Nat) (E : Nat → Addr) (w : World) (hl : RowAt encI 1 w w.heap.size A ws) (hE : Env LS E w) (hW : Words w) :
    Calls Tryd.prog 3 #[.int .i64 n, .slice A ws.length c] w fun e w' => e = .returned (.bool true) ∧ Below w.heap.size w w' := by
  have HE := Lib.hid hE
  have HW := Lib.hid hW
  have HL := Lib.hid hl
  clear hE hl hW
  by_cases hn : ws.length ≤ 100
  case neg =>
    go_enter Tryd.func3, Tryd.ntmps3
    go_wp2_with fail
    refine (first2_any E _ HE.out HW.out).mono ?_
    rintro e w1 ⟨rfl, hb1⟩
    go_wp2_with fail
    go_ret
    exact ⟨rfl, hb1⟩
  go_enter Tryd.func3, Tryd.ntmps3
  go_wp2_with fail
  refine (first2_any E _ HE.out HW.out).mono ?_
  rintro e w1 ⟨rfl, hb1⟩
  have z1 := hb1.size
  go_wp2_with fail
  refine (share_any n ws A c E _ ((HL.out.below hb1 (Nat.le_refl _)).more z1) (HE.out.below hb1)).mono ?_
  rintro e w2 ⟨v, err, rfl, hs, hb2⟩
  have hw2 : Below w.heap.size w w2 := stepH hb1 hb2
  rcases hs with ⟨hno, rfl, g, rfl⟩ | ⟨ok, rfl, hown⟩
  · clear hno
    go_wp2_with fail
    go_ret
    exact ⟨rfl, hw2⟩
  · obtain ⟨A2, c2, hv, hc2, hm2, hr2⟩ := Own.rows (enc := encI) (size := 1) (fun _ _ => rfl) hown
    rw [shareL_len] at hv hc2
    subst hv
    have HR := Lib.hid hr2
    have OK := Lib.hid ok
    have z2 := hw2.size
    have PB : Hid (∀ k, k ≤ ws.length → 0 ≤ psum ws k ∧ psum ws k ≤ 1000 * k) := fun k hk => psum_bound hk (fun i y _ hy => ok.2.2.2.1 y (List.mem_of_getElem? hy))
    have WB : Hid (∀ (k : Nat) (x : Int), ws[k]? = some x → 0 ≤ x ∧ x ≤ 1000) := fun k x hx => ok.2.2.2.1 x (List.mem_of_getElem? hx)
    have pos := ok.2.2.2.2
    clear ok hown hr2
    go_wp2_with fail
    go_loop [8, 10] (fun all i => ∃ k : Nat, k ≤ ws.length ∧ i = .int .i64 k ∧ all = .int .i64 (psum ws k)) (fun _ i => ws.length - (intOf i).toNat)
    case atStart => exact ⟨0, Nat.zero_le _, rfl, rfl⟩
    case round =>
      obtain ⟨k, hk, rfl, rfl⟩ := hrel
      obtain ⟨p1, p2⟩ := PB.out k hk
      by_cases hlt : k < ws.length
      · obtain ⟨x, hx⟩ : ∃ x, ws[k]? = some x := ⟨ws[k], List.getElem?_eq_getElem hlt⟩
        obtain ⟨b, off, rfl, _, hc⟩ := HL.out.below hw2 (Nat.le_refl _) k _ hx
        have c0 : w2.cell? ⟨b, off + k, none⟩ = some (.int .i64 x) := by have := hc 0 _ rfl; simpa using this
        obtain ⟨x1, x2⟩ := WB.out k x hx
        have HP := Lib.hid (psum_succ hx)
        clear hx hc
        go_wp2_with fail
        go_round
        case rel => exact ⟨k + 1, by omega, by go_num, by rw [HP.out]⟩
        case measure => simp [intOf]; omega
      · obtain rfl : k = ws.length := by omega
        obtain ⟨t, ht⟩ : ∃ t, psum ws ws.length = t := ⟨_, rfl⟩
        have T := Lib.hid (fun (k : Nat) (x : Int) (hx : ws[k]? = some x) => share_part OK.out ht hx)
        rw [ht] at p1 p2 pos
        rw [ht]
        have HT := Lib.hid ht
        clear ht hlt hk
        go_wp2_with fail
        go_loopw [9, 11] (fun sum i wr => ∃ k : Nat, k ≤ ws.length ∧ i = .int .i64 k ∧ sum = .int .i64 (n * psum ws k / t) ∧ Below w2.heap.size w2 wr) (fun _ i _ => ws.length - (intOf i).toNat)
        case atStart => exact ⟨0, Nat.zero_le _, rfl, by rw [psum_zero, Int.mul_zero, Int.zero_ediv], Below.refl _ _⟩
        case round =>
          obtain ⟨k, hk, rfl, rfl, hb⟩ := hrel
          by_cases hlt : k < ws.length
          · obtain ⟨x, hx⟩ : ∃ x, ws[k]? = some x := ⟨ws[k], List.getElem?_eq_getElem hlt⟩
            obtain ⟨b, off, rfl, _, hc⟩ := HL.out.below (hw2.trans (hb.mono z2)) (Nat.le_refl _) k _ hx
            have c0 : wr.cell? ⟨b, off + k, none⟩ = some (.int .i64 x) := by have := hc 0 _ rfl; simpa using this
            have hy : (shareL n ws ws.length)[k]? = some (shareAt n ws k) := by unfold shareL; simp [hlt]
            obtain ⟨b', off', rfl, _, hc'⟩ := HR.out.below hb (Nat.le_refl _) k _ hy
            have c1 : wr.cell? ⟨b', off' + k, none⟩ = some (.int .i64 (shareAt n ws k)) := by have := hc' 0 _ rfl; simpa using this
            obtain ⟨s1, s2, s3, s4, s5, s6, s7, s8, s9, s10, s11, s12, s13, s14, s15, s16⟩ := T.out k x hx
            have S6 := Lib.hid s6
            clear hc hc' hx hy s6
            generalize shareAt n ws k = a at *
            have mb := part_bound (n := a) (s := t) (t := t)
            have m1 : -1000000000001 * t ≤ a * t := Int.mul_le_mul_of_nonneg_right s1 (by omega)
            have m2 : a * t ≤ 1000000000001 * t := Int.mul_le_mul_of_nonneg_right s2 (by omega)
            clear mb
            by_cases x0 : x = 0
            · have a0 := s5 x0
              subst x0 a0
              clear s5
              go_wp2_with fail
              go_quiet (fail)
              go_wp2_with fail
              go_roundw
              case rel => exact ⟨k + 1, by omega, by go_num, by rw [← S6.out, Int.add_zero], below_drewN hb _⟩
              case measure => simp [intOf]; omega
            · have x0' : (x == 0) = false := by simpa using x0
              clear s5
              go_wp2_with fail
              go_quiet (fail)
              go_wp2_with fail
              go_roundw
              case rel => exact ⟨k + 1, by omega, by go_num, by rw [← S6.out], below_drewN hb _⟩
              case measure => simp [intOf]; omega
          · obtain rfl : k = ws.length := by omega
            have hfin : n * psum ws ws.length / t = n := by rw [HT.out]; exact Int.mul_ediv_cancel _ (by omega)
            rw [hfin]
            clear hfin
            go_wp2_with fail
            go_ret
            exact ⟨ret_bool (by simp), hw2.trans (hb.mono z2)⟩

end Go.Proofs.YtcbglkkmblmbnaaDoor
