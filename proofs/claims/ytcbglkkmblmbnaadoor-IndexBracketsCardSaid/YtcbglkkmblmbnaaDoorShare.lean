/- round.Share, walked: the whole parts. -/
import Derived.Test.YtcbglkkmblmbnaaDoorInts
namespace Go.Proofs.YtcbglkkmblmbnaaDoor
open Go.RowKit

theorem tdiv_floor2 (n d : Int) (hn : n < 0) (hd : 1 ≤ d) : (n.tmod d < 0 → n.tdiv d - 1 = n / d) ∧ (¬ n.tmod d < 0 → n.tdiv d = n / d) ∧ n ≤ n.tdiv d ∧ n.tdiv d ≤ 0 := by
  obtain ⟨k, rfl⟩ : ∃ k : Int, n = -k := ⟨-n, by omega⟩
  have t1 : (-k).tdiv d = -(k / d) := by rw [Int.neg_tdiv, Int.tdiv_eq_ediv_of_nonneg (by omega)]
  have t2 : (-k).tmod d = -(k % d) := by rw [Int.neg_tmod, Int.tmod_eq_emod_of_nonneg (by omega)]
  rw [t1, t2]
  have e1 := Int.mul_ediv_add_emod k d
  have r1 := Int.emod_nonneg k (show d ≠ 0 by omega)
  have r2 := Int.emod_lt_of_pos k (show 0 < d by omega)
  have q := quot_le (m := k) (d := d) (by omega) hd
  refine ⟨fun h => ?_, fun h => ?_, by omega, by omega⟩
  · have := (floor_neg (m := -k) (q := -(k / d) - 1) (r := d - k % d) hd (by omega) (by omega) (by rw [Int.mul_sub, Int.mul_neg]; omega)).1
    exact this.symm
  · have h0 : k % d = 0 := by omega
    have := (floor_neg (m := -k) (q := -(k / d)) (r := 0) hd (by omega) (by omega) (by rw [Int.mul_neg]; omega)).1
    exact this.symm

set_option maxHeartbeats 1000000 in
theorem rfloor_any (n a b : Int) (w : World) (h1 : -1000000000000000000 ≤ n * a) (h2 : n * a ≤ 1000000000000000000) (b1 : 1 ≤ b) (b2 : b ≤ 1000000000000000000) :
    Calls Tryd.prog 41 #[.int .i64 n, .int .i64 a, .int .i64 b] w fun e w' => e = .returned (.int .i64 (n * a / b)) ∧ w = w' := by
  by_cases h : n * a < 0
  · obtain ⟨f1, f2, f3, f4⟩ := tdiv_floor2 (n * a) b h b1
    by_cases hr : (n * a).tmod b < 0
    · have HF := Lib.hid (f1 hr)
      clear f1 f2
      go_enter Tryd.func41, Tryd.ntmps41
      go_wp2
      go_ret
      exact ⟨ret_int HF.out, rfl⟩
    · have HF := Lib.hid (f2 hr)
      clear f1 f2
      go_enter Tryd.func41, Tryd.ntmps41
      go_wp2
      go_ret
      exact ⟨ret_int HF.out, rfl⟩
  · have hq := quot_le (m := n * a) (d := b) (by omega) b1
    have hm := Int.emod_nonneg (n * a) (show b ≠ 0 by omega)
    go_enter Tryd.func41, Tryd.ntmps41
    go_wp2
    go_ret
    exact ⟨ret_int rfl, rfl⟩

/-- the sentinels of chapter 2 -/
def LS : List Nat := LA ++ [0, 3]
/-- when Share answers parts -/
def shareOk (n : Int) (ws : List Int) : Prop := ws.length ≤ 100 ∧ -1000000000000 ≤ n ∧ n ≤ 1000000000000 ∧ (∀ x ∈ ws, 0 ≤ x ∧ x ≤ 1000) ∧ 0 < psum ws ws.length
def shareAt (n : Int) (ws : List Int) (i : Nat) : Int := n * psum ws (i + 1) / psum ws ws.length - n * psum ws i / psum ws ws.length
def shareL (n : Int) (ws : List Int) (k : Nat) : List Int := (List.range k).map (shareAt n ws)
theorem shareL_len (n : Int) (ws : List Int) (k : Nat) : (shareL n ws k).length = k := by unfold shareL; simp
theorem shareL_succ (n : Int) (ws : List Int) (k : Nat) : shareL n ws (k + 1) = shareL n ws k ++ [shareAt n ws k] := by unfold shareL; rw [List.range_succ, List.map_append]; rfl
/-- how parts, or an error, come back -/
def ShareF (E : Nat → Addr) (n : Int) (ws : List Int) (base : Nat) (w : World) (v err : Value) : Prop :=
  (¬ shareOk n ws ∧ v = .slice none 0 0 ∧ ∃ g, err = .iface 106 (.pointer (some (E g)))) ∨
  (shareOk n ws ∧ err = .nilIface ∧ Own encI 1 3 base w v (shareL n ws ws.length))
theorem psum_bound {ws : List Int} {k : Nat} (hk : k ≤ ws.length) (h : ∀ j x, j < k → ws[j]? = some x → 0 ≤ x ∧ x ≤ 1000) : 0 ≤ psum ws k ∧ psum ws k ≤ 1000 * k := by
  induction k with
  | zero => rw [psum_zero]; omega
  | succ k ih =>
    obtain ⟨a, b⟩ := ih (by omega) (fun j x hj hx => h j x (by omega) hx)
    have hx : ws[k]? = some (ws[k]'(by omega)) := List.getElem?_eq_getElem _
    have := h k _ (by omega) hx
    rw [psum_succ hx]; omega
theorem psum_mono {ws : List Int} (h : ∀ x ∈ ws, 0 ≤ x) (k : Nat) : psum ws k ≤ psum ws ws.length := by
  unfold psum
  rw [List.take_length]
  have e : ws.sum = (ws.take k).sum + (ws.drop k).sum := by rw [← List.sum_append, List.take_append_drop]
  have : ∀ l : List Int, (∀ x ∈ l, 0 ≤ x) → 0 ≤ l.sum := by
    intro l hl
    induction l with
    | nil => simp
    | cons y r ih => rw [List.sum_cons]; have := hl y (List.mem_cons_self ..); have := ih fun z hz => hl z (List.mem_cons_of_mem _ hz); omega
  have := this (ws.drop k) fun x hx => h x (List.mem_of_mem_drop hx)
  omega
theorem part_bound {n s t : Int} (hn1 : -1000000000000 ≤ n) (hn2 : n ≤ 1000000000000) (h0 : 0 ≤ s) (h1 : s ≤ t) (ht : 0 < t) (ht2 : t ≤ 100000) :
    -100000000000000000 ≤ n * s ∧ n * s ≤ 100000000000000000 ∧ -1000000000000 ≤ n * s / t ∧ n * s / t ≤ 1000000000000 := by
  have a1 : n * s ≤ 1000000000000 * s := Int.mul_le_mul_of_nonneg_right hn2 h0
  have a2 : -1000000000000 * s ≤ n * s := Int.mul_le_mul_of_nonneg_right hn1 h0
  refine ⟨by omega, by omega, ?_, ?_⟩
  · exact Int.le_ediv_of_mul_le ht (by omega)
  · exact Int.ediv_le_of_le_mul ht (by omega)

set_option maxRecDepth 100000 in
set_option maxHeartbeats 4000000 in
theorem share_any (n : Int) (ws : List Int) (A : Option Addr) (c : Nat) (E : Nat → Addr) (w : World) (hl : RowAt encI 1 w w.heap.size A ws) (hE : Env LS E w) :
    Calls Tryd.prog 13 #[.int .i64 n, .slice A ws.length c] w fun e w' => ∃ v err, e = .returned (.tuple #[v, err]) ∧ ShareF E n ws w.heap.size w' v err ∧ Below w.heap.size w w' := by
  have cM := hE.cell 0 (by decide)
  have cN := hE.cell 3 (by decide)
  have HL := Lib.hid hl
  clear hl hE
  by_cases h100 : ws.length ≤ 100
  case neg =>
    go_enter Tryd.func13, Tryd.ntmps13
    go_wp2_with fail
    go_quiet (fail)
    go_wp2_with fail
    go_ret2
    exact ⟨_, _, rfl, .inl ⟨fun h => by have := h.1; omega, rfl, _, rfl⟩, by (repeat' (first | with_reducible exact Below.refl _ _ | with_reducible assumption | with_reducible refine Below.drew ?_ | with_reducible refine below_drewN ?_ _ | with_reducible refine Below.setCell ?_ ?_ _ | with_reducible refine Below.alloc ?_ ?_ _ | omega | (simp; done) | (simp; omega)))⟩
  by_cases hn1 : -1000000000000 ≤ n
  case neg =>
    go_enter Tryd.func13, Tryd.ntmps13
    go_wp2_with fail
    go_quiet (fail)
    go_wp2_with fail
    go_ret2
    exact ⟨_, _, rfl, .inl ⟨fun h => by have := h.2.1; omega, rfl, _, rfl⟩, by (repeat' (first | with_reducible exact Below.refl _ _ | with_reducible assumption | with_reducible refine Below.drew ?_ | with_reducible refine below_drewN ?_ _ | with_reducible refine Below.setCell ?_ ?_ _ | with_reducible refine Below.alloc ?_ ?_ _ | omega | (simp; done) | (simp; omega)))⟩
  by_cases hn2 : n ≤ 1000000000000
  case neg =>
    go_enter Tryd.func13, Tryd.ntmps13
    go_wp2_with fail
    go_quiet (fail)
    go_wp2_with fail
    go_ret2
    exact ⟨_, _, rfl, .inl ⟨fun h => by have := h.2.2.1; omega, rfl, _, rfl⟩, by (repeat' (first | with_reducible exact Below.refl _ _ | with_reducible assumption | with_reducible refine Below.drew ?_ | with_reducible refine below_drewN ?_ _ | with_reducible refine Below.setCell ?_ ?_ _ | with_reducible refine Below.alloc ?_ ?_ _ | omega | (simp; done) | (simp; omega)))⟩
  obtain ⟨i0, hi, jz0, jz1, jz2⟩ := info_parts infoInt
  go_enter Tryd.func13, Tryd.ntmps13
  go_wp2_with fail
  go_loop [6, 28] (fun all i => ∃ k : Nat, k ≤ ws.length ∧ i = .int .i64 k ∧ all = .int .i64 (psum ws k) ∧ Hid (∀ j x, j < k → ws[j]? = some x → 0 ≤ x ∧ x ≤ 1000)) (fun _ i => ws.length - (intOf i).toNat)
  case atStart => exact ⟨0, Nat.zero_le _, rfl, rfl, fun j x h => by omega⟩
  case round =>
    obtain ⟨k, hk, rfl, rfl, hv⟩ := hrel
    obtain ⟨ps1, ps2⟩ := psum_bound hk hv.out
    by_cases hlt : k < ws.length
    · obtain ⟨x, hx⟩ : ∃ x, ws[k]? = some x := ⟨ws[k], List.getElem?_eq_getElem hlt⟩
      obtain ⟨b, off, rfl, _, hc⟩ := HL.out k _ hx
      have c0 : w.cell? ⟨b, off + k, none⟩ = some (.int .i64 x) := by have := hc 0 _ rfl; simpa using this
      have HX := Lib.hid hx
      clear hx hc
      have bad : ¬ (0 ≤ x ∧ x ≤ 1000) → ¬ shareOk n ws := fun h g => h (g.2.2.2.1 x (List.mem_of_getElem? HX.out))
      have BAD := Lib.hid bad
      clear bad
      by_cases x1 : 0 ≤ x
      · by_cases x2 : x ≤ 1000
        · have hp := psum_succ HX.out
          have HP := Lib.hid hp
          clear hp
          go_wp2_with fail
          go_round
          case rel =>
            refine ⟨k + 1, by omega, by go_num, by rw [HP.out], fun j y hj hy => ?_⟩
            rcases Nat.lt_or_ge j k with h | h
            · exact hv.out j y h hy
            · obtain rfl : j = k := by omega
              rw [HX.out] at hy
              cases hy
              exact ⟨x1, x2⟩
          case measure => simp [intOf]; omega
        · go_wp2_with fail
          go_quiet (fail)
          go_wp2_with fail
          go_ret2
          exact ⟨_, _, rfl, .inl ⟨BAD.out (fun h => by omega), rfl, _, rfl⟩, by (repeat' (first | with_reducible exact Below.refl _ _ | with_reducible assumption | with_reducible refine Below.drew ?_ | with_reducible refine below_drewN ?_ _ | with_reducible refine Below.setCell ?_ ?_ _ | with_reducible refine Below.alloc ?_ ?_ _ | omega | (simp; done) | (simp; omega)))⟩
      · go_wp2_with fail
        go_quiet (fail)
        go_wp2_with fail
        go_ret2
        exact ⟨_, _, rfl, .inl ⟨BAD.out (fun h => by omega), rfl, _, rfl⟩, by (repeat' (first | with_reducible exact Below.refl _ _ | with_reducible assumption | with_reducible refine Below.drew ?_ | with_reducible refine below_drewN ?_ _ | with_reducible refine Below.setCell ?_ ?_ _ | with_reducible refine Below.alloc ?_ ?_ _ | omega | (simp; done) | (simp; omega)))⟩
    · obtain rfl : k = ws.length := by omega
      have HT : Hid (∀ x ∈ ws, 0 ≤ x ∧ x ≤ 1000) := fun x hx => by
        obtain ⟨j, hj⟩ := List.getElem?_of_mem hx
        exact hv.out j x (List.getElem?_eq_some_iff.1 hj).1 hj
      clear hlt hk
      by_cases h0 : psum ws ws.length = 0
      · have h0' : (psum ws ws.length == 0) = true := by simpa using h0
        have H0 := Lib.hid h0
        clear h0
        go_wp2_with fail
        go_quiet (fail)
        go_wp2_with fail
        go_ret2
        exact ⟨_, _, rfl, .inl ⟨fun h => by have := h.2.2.2.2; rw [H0.out] at this; omega, rfl, _, rfl⟩, by (repeat' (first | with_reducible exact Below.refl _ _ | with_reducible assumption | with_reducible refine Below.drew ?_ | with_reducible refine below_drewN ?_ _ | with_reducible refine Below.setCell ?_ ?_ _ | with_reducible refine Below.alloc ?_ ?_ _ | omega | (simp; done) | (simp; omega)))⟩
      · have h0' : (psum ws ws.length == 0) = false := by simpa using h0
        have pos : 0 < psum ws ws.length := by omega
        have OK : Hid (shareOk n ws) := ⟨h100, by omega, by omega, HT.out, pos⟩
        have SA : Hid (∀ k, shareAt n ws k = n * psum ws (k + 1) / psum ws ws.length - n * psum ws k / psum ws ws.length) := fun k => rfl
        have PM : Hid (∀ k, k ≤ ws.length → 0 ≤ psum ws k ∧ psum ws k ≤ psum ws ws.length) := fun k hk => ⟨(psum_bound hk (fun j x hj hx => hv.out j x (by omega) hx)).1, psum_mono (fun x hx => (HT.out x hx).1) k⟩
        generalize psum ws ws.length = t at *
        clear hv h0
        go_wp2_with fail
        go_loopw [9, 10, 11, 48] (fun out sum last i wr => ∃ k : Nat, k ≤ ws.length ∧ i = .int .i64 k ∧ sum = .int .i64 (psum ws k) ∧ last = .int .i64 (n * psum ws k / t) ∧ wr.ownsRow w.heap.size 3 1 out k ((shareL n ws k).flatMap encI) ∧ Below w.heap.size w wr) (fun _ _ _ i _ => ws.length - (intOf i).toNat)
        case atStart => exact ⟨0, Nat.zero_le _, rfl, rfl, by rw [psum_zero, Int.mul_zero, Int.zero_ediv], World.ownsRow_nil _ _ _ _, by (repeat' (first | with_reducible exact Below.refl _ _ | with_reducible assumption | with_reducible refine Below.drew ?_ | with_reducible refine below_drewN ?_ _ | with_reducible refine Below.setCell ?_ ?_ _ | with_reducible refine Below.alloc ?_ ?_ _ | omega | (simp; done) | (simp; omega)))⟩
        case round =>
          obtain ⟨k, hk, rfl, rfl, rfl, hown, hb⟩ := hrel
          have hz := hb.size
          obtain ⟨q1, q2⟩ := PM.out k hk
          obtain ⟨q3, q4, q5, q6⟩ := part_bound hn1 hn2 q1 q2 pos (by omega)
          by_cases hlt : k < ws.length
          · obtain ⟨x, hx⟩ : ∃ x, ws[k]? = some x := ⟨ws[k], List.getElem?_eq_getElem hlt⟩
            obtain ⟨b, off, rfl, _, hc⟩ := HL.out.below hb (Nat.le_refl _) k _ hx
            have c0 : wr.cell? ⟨b, off + k, none⟩ = some (.int .i64 x) := by have := hc 0 _ rfl; simpa using this
            have x12 := HT.out x (List.mem_of_getElem? hx)
            obtain ⟨x1, x2⟩ := x12
            have hp := psum_succ hx
            obtain ⟨r1, r2⟩ := PM.out (k + 1) (by omega)
            have HP := Lib.hid hp
            have HS := Lib.hid (SA.out k)
            rw [hp] at r1 r2
            obtain ⟨r3, r4, r5, r6⟩ := part_bound hn1 hn2 r1 r2 pos (by omega)
            clear hx hc hp
            go_wp2_with fail
            refine (rfloor_any n (psum ws k + x) t _ (by omega) (by omega) (by omega) (by omega)).mono ?_
            rintro e w' ⟨rfl, rfl⟩
            go_wp2_with (at_builtin; go_must (refine wpList_append_own _ rfl (.tmp 59) (.tmp 63) 22 rfl w.heap.size 3 i0 _ 1 8 Tryd.underlying22 hi jz0 jz1 jz2 rfl (by decide) _ k _ rfl (hown.alloc _) ⟨wr.heap.size, 0, none⟩ 1 1 [.int .i64 (n * (psum ws k + x) / t - n * psum ws k / t)] rfl rfl (cell_one_new _ _ _) (by simp [Value.oneCell']) (by unfold maxLen; omega) (by omega) (by simp; omega) ?_); intro v' w1 hown' hgrow _)
            go_roundw
            case rel =>
              refine ⟨k + 1, by omega, by go_num, by rw [HP.out], by rw [HP.out], ?_, (Below.alloc hb hz _).grown hgrow (by simp; omega) (fun g hg => (hown.lt g hg).1)⟩
              rw [shareL_succ, List.flatMap_append, HS.out, HP.out]; simpa [encI] using hown'
            case measure => simp [intOf]; omega
          · obtain rfl : k = ws.length := by omega
            go_wp2_with fail
            go_ret2
            exact ⟨_, _, rfl, .inr ⟨OK.out, rfl, by unfold Own; rw [shareL_len]; exact hown⟩, hb⟩

end Go.Proofs.YtcbglkkmblmbnaaDoor
