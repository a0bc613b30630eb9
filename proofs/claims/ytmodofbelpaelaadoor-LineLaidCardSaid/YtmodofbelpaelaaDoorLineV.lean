/- The document's days: Put: walk. -/
import Derived.Test.YtmodofbelpaelaaDoorLineU
namespace Go.Proofs.YtmodofbelpaelaaDoor
open Go.RowKit

set_option maxRecDepth 10000 in
set_option maxHeartbeats 4000000 in
theorem put6_any (l : List Int) (n : Int) (v : Value) (base : Nat) (w : World) (hb : base ≤ w.heap.size) (hl : Own encI 1 3 base w v l) (hm : l.length ≤ 1000000) :
    Calls Tryd.prog 141 #[v, .int .i64 n] w fun e w' => (∃ v', e = .returned v' ∧ Own encI 1 3 base w' v' (putL l n)) ∧ Below base w w' := by
  obtain ⟨i0, hi, jz0, jz1, jz2⟩ := info_parts infoInt
  have HO := Lib.hid hl
  obtain ⟨A, c, rfl, hc1, hc2, hrow⟩ := Own.rows (fun x _ => encI_len x) hl
  have HR := Lib.hid hrow
  clear hl hrow
  go_enter Tryd.func141, Tryd.ntmps141
  go_wp2_with fail
  go_loopw [5] (fun i wr => ∃ k : Nat, k ≤ l.length ∧ i = .int .i64 k ∧ Hid (∀ (i : Nat) (x : Int), l[i]? = some x → i < k → x < n) ∧ wr = w) (fun i _ => l.length - (intOf i).toNat)
  case atStart => exact ⟨0, Nat.zero_le _, rfl, Lib.hid (fun i x _ h => by omega), rfl⟩
  case round =>
    obtain ⟨k, hk, rfl, HK, rfl⟩ := hrel
    by_cases hlt : k < l.length
    · obtain ⟨x, hx⟩ : ∃ x, l[k]? = some x := ⟨l[k], List.getElem?_eq_getElem hlt⟩
      obtain ⟨b, off, rfl, hbl, hc⟩ := HR.out k _ hx
      obtain rfl : off = 0 := by
        rcases HO.out.2 with ⟨h, _⟩ | ⟨g, cp, cur, h, _⟩
        · cases h
        · cases h; rfl
      have c0 : wr.cell? ⟨b, k, none⟩ = some (.int .i64 x) := by have := hc 0 _ rfl; simpa using this
      have hlt2 : (k : Int) < (l.length : Int) := by omega
      have HX := Lib.hid hx
      clear hx hc
      by_cases hxn : x < n
      · have e1 : decide (x < n) = true := decide_eq_true hxn
        go_wp2_with fail
        go_roundw
        case rel => exact ⟨k + 1, by omega, by go_num, Lib.hid (fun i y hi hlt => by
          rcases Nat.lt_or_ge i k with h | h
          · exact HK.out i y hi h
          · obtain rfl : i = k := by omega
            rw [HX.out] at hi; cases hi; exact hxn), trivial⟩
        case measure => simp [intOf]; omega
      · have e1 : decide (x < n) = false := decide_eq_false hxn
        have hput := putL_at hk HK.out (fun y hy => by rw [HX.out] at hy; cases hy; exact hxn)
        by_cases hxe : x = n
        · have e2 : (x == n) = true := by simp [hxe]
          have HP : Hid (putL l n = l) := by show _ = _; rw [hput, if_pos (by rw [HX.out, hxe])]
          clear hput hxn hxe
          go_wp2_with fail
          go_ret
          exact ⟨⟨_, rfl, by rw [HP.out]; exact HO.out⟩, Below.refl _ _⟩
        · have e2 : (x == n) = false := by simp [hxe]
          have HP : Hid (putL l n = l.take k ++ [n] ++ l.drop k) := by show _ = _; rw [hput, if_neg (by rw [HX.out]; simpa using hxe)]
          clear hput hxn hxe
          go_wp2_with fail
          have hrowk : RowAt encI 1 wr wr.heap.size (some ⟨b, 0 + k, none⟩) (l.drop k) := by
            intro j y hy
            rw [List.getElem?_drop] at hy
            obtain ⟨b', off', e, hb', hcc⟩ := HR.out (k + j) y hy
            cases e
            exact ⟨b, 0 + k, rfl, hb', fun i u hu => by rw [show 0 + k + j * 1 + i = 0 + (k + j) * 1 + i by omega]; exact hcc i u hu⟩
          rw [Nat.zero_add] at hrowk
          refine (ints6_any (l.drop k) (l.length - k) (some ⟨b, k, none⟩) (c - k) wr List.length_drop hrowk (by omega)).mono ?_
          rintro e w9 ⟨v9, rfl, hown9, hb9⟩
          have hpre := own_below (own_take HO.out hk) hb9
          rw [encI_flat, Nat.mul_one, ← List.map_take] at hpre
          have HPRE := Lib.hid hpre
          obtain ⟨g9, c9, rfl, hg9, _, hrow9, _⟩ := own_cells (fun x _ => encI_len x) (by intro h; have := congrArg List.length h; rw [List.length_drop, List.length_nil] at this; omega) hown9
          have hlen9 : (l.drop k).length = l.length - k := List.length_drop
          have HF9 := Lib.hid (rowFlat encI_len (by decide) hrow9)
          have HN9 := Lib.hid (flat_len (l := l.drop k) (fun x _ => encI_len x))
          have HP1 : Hid (∀ u ∈ (l.drop k).flatMap encI, u.oneCell' = true) := fun u hu => by rw [encI_flat] at hu; obtain ⟨x, _, rfl⟩ := List.mem_map.1 hu; rfl
          have hg9l : g9 < w9.heap.size := by
            rcases hown9.2 with ⟨h, _⟩ | ⟨g, cp, cur, h, _, h5, _⟩
            · cases h
            · cases h; exact (Array.getElem?_eq_some_iff.1 h5).1
          have z9 := hb9.size
          rw [hlen9] at HN9 ⊢
          clear hrowk hown9 hrow9 hpre c0
          have hgb : some g9 ≠ (Value.slice (some ⟨b, 0, none⟩) k c).ownBlock := by simp [Value.ownBlock]; omega
          go_wp2_with (at_builtin; first | (refine wpList_append_own _ rfl (.tmp 40) (.tmp 42) 153 rfl base 3 i0 _ 1 8 Tryd.underlying153 hi jz0 jz1 jz2 rfl (by decide) _ k _ rfl (HPRE.out.alloc _) ⟨w9.heap.size, 0, none⟩ 1 1 [.int .i64 n] rfl rfl (cell_one_new _ _ _) (by simp [Value.oneCell']) (by unfold maxLen; omega) (by omega) (by simp; omega) ?_; intro v1 w1 hown1 hgrow1 _; have hz1 := grown_size hgrow1; have hfar := Lib.hid (far_row hgrow1 hg9l hgb (HF9.out _ rfl))) | (refine wpList_append_own _ rfl (.tmp 43) (.tmp 44) 153 rfl base 3 i0 _ 1 8 Tryd.underlying153 hi jz0 jz1 jz2 rfl (by decide) _ (k + 1) _ rfl hown1 ⟨g9, 0, none⟩ (l.length - k) c9 ((l.drop k).flatMap encI) rfl HN9.out hfar.out HP1.out (by unfold maxLen; omega) (by omega) (by omega) ?_; intro v2 w2 hown2 hgrow2 _))
          go_ret
          refine ⟨⟨_, rfl, ?_⟩, ?_⟩
          · rw [HP.out]
            unfold Own
            rw [show (l.take k ++ [n] ++ l.drop k).length = k + 1 + (l.length - k) by simp; omega, List.flatMap_append, List.flatMap_append, encI_flat (l.take k)]
            exact hown2
          · have hb1 : Below base wr w1 := Below.grown (w := w9.alloc (.cells #[.int .i64 n] 3)) (((hb9.mono hb).alloc (by omega) _)) hgrow1 (by simp; omega) (fun g hg => (HPRE.out.lt g hg).1)
            exact Below.grown hb1 hgrow2 (by omega) (fun g hg => (hown1.lt g hg).1)
    · obtain rfl : k = l.length := by omega
      have hput := putL_at (Nat.le_refl _) HK.out (fun y hy => by rw [List.getElem?_eq_none (Nat.le_refl _)] at hy; cases hy)
      rw [List.getElem?_eq_none (Nat.le_refl _), if_neg (by simp), List.take_length, List.drop_length, List.append_nil] at hput
      have HP := Lib.hid hput
      clear hput
      by_cases hcl : c = l.length
      · subst hcl
        go_wp2_with fail
        refine (ints6_any [] 0 A 0 wr rfl RowAt.nil (by omega)).mono ?_
        rintro e w9 ⟨v9, rfl, hown9, hb9⟩
        have z9 := hb9.size
        have HPRE := Lib.hid (own_below HO.out hb9)
        obtain ⟨A9, c9, rfl, _, hA9, _⟩ := own_line (fun x _ => encI_len x) hown9
        cases A9 with
        | none =>
          obtain rfl := hA9 rfl
          go_wp2_with (at_builtin; first | (refine wpList_append_own _ rfl (.tmp 40) (.tmp 42) 153 rfl base 3 i0 _ 1 8 Tryd.underlying153 hi jz0 jz1 jz2 rfl (by decide) _ l.length _ rfl (HPRE.out.alloc _) ⟨w9.heap.size, 0, none⟩ 1 1 [.int .i64 n] rfl rfl (cell_one_new _ _ _) (by simp [Value.oneCell']) (by unfold maxLen; omega) (by omega) (by simp; omega) ?_; intro v1 w1 hown1 hgrow1 _; have hz1 := grown_size hgrow1) | (refine wpList_append_own_none rfl (.tmp 43) (.tmp 44) 153 rfl base 3 i0 1 Tryd.underlying153 hi _ (l.length + 1) _ rfl hown1 rfl ?_))
          go_ret
          refine ⟨⟨_, rfl, by rw [HP.out]; exact Own.snoc hown1 rfl rfl⟩, ?_⟩
          exact Below.grown (w := w9.alloc (.cells #[.int .i64 n] 3)) (((hb9.mono hb).alloc (by omega) _)) hgrow1 (by simp; omega) (fun g hg => (HPRE.out.lt g hg).1)
        | some a9 =>
          go_wp2_with (at_builtin; first | (refine wpList_append_own _ rfl (.tmp 40) (.tmp 42) 153 rfl base 3 i0 _ 1 8 Tryd.underlying153 hi jz0 jz1 jz2 rfl (by decide) _ l.length _ rfl (HPRE.out.alloc _) ⟨w9.heap.size, 0, none⟩ 1 1 [.int .i64 n] rfl rfl (cell_one_new _ _ _) (by simp [Value.oneCell']) (by unfold maxLen; omega) (by omega) (by simp; omega) ?_; intro v1 w1 hown1 hgrow1 _; have hz1 := grown_size hgrow1) | (refine wpList_append_own _ rfl (.tmp 43) (.tmp 44) 153 rfl base 3 i0 _ 1 8 Tryd.underlying153 hi jz0 jz1 jz2 rfl (by decide) _ (l.length + 1) _ rfl hown1 a9 0 c9 [] rfl rfl (fun j u h => by simp at h) (fun u h => by cases h) (by unfold maxLen; omega) (by omega) (by omega) ?_; intro v2 w2 hown2 hgrow2 _))
          go_ret
          refine ⟨⟨_, rfl, by rw [HP.out]; exact Own.snoc hown2 rfl (by simp [encI])⟩, ?_⟩
          exact Below.grown (Below.grown (w := w9.alloc (.cells #[.int .i64 n] 3)) (((hb9.mono hb).alloc (by omega) _)) hgrow1 (by simp; omega) (fun g hg => (HPRE.out.lt g hg).1)) hgrow2 (by omega) (fun g hg => (hown1.lt g hg).1)
      · skip
        go_wp2_with fail
        refine (ints6_any [] 0 (A.map (fun x => x.add l.length)) (c - l.length) wr rfl RowAt.nil (by omega)).mono ?_
        rintro e w9 ⟨v9, rfl, hown9, hb9⟩
        have z9 := hb9.size
        have HPRE := Lib.hid (own_below HO.out hb9)
        obtain ⟨A9, c9, rfl, _, hA9, _⟩ := own_line (fun x _ => encI_len x) hown9
        cases A9 with
        | none =>
          obtain rfl := hA9 rfl
          go_wp2_with (at_builtin; first | (refine wpList_append_own _ rfl (.tmp 40) (.tmp 42) 153 rfl base 3 i0 _ 1 8 Tryd.underlying153 hi jz0 jz1 jz2 rfl (by decide) _ l.length _ rfl (HPRE.out.alloc _) ⟨w9.heap.size, 0, none⟩ 1 1 [.int .i64 n] rfl rfl (cell_one_new _ _ _) (by simp [Value.oneCell']) (by unfold maxLen; omega) (by omega) (by simp; omega) ?_; intro v1 w1 hown1 hgrow1 _; have hz1 := grown_size hgrow1) | (refine wpList_append_own_none rfl (.tmp 43) (.tmp 44) 153 rfl base 3 i0 1 Tryd.underlying153 hi _ (l.length + 1) _ rfl hown1 rfl ?_))
          go_ret
          refine ⟨⟨_, rfl, by rw [HP.out]; exact Own.snoc hown1 rfl rfl⟩, ?_⟩
          exact Below.grown (w := w9.alloc (.cells #[.int .i64 n] 3)) (((hb9.mono hb).alloc (by omega) _)) hgrow1 (by simp; omega) (fun g hg => (HPRE.out.lt g hg).1)
        | some a9 =>
          go_wp2_with (at_builtin; first | (refine wpList_append_own _ rfl (.tmp 40) (.tmp 42) 153 rfl base 3 i0 _ 1 8 Tryd.underlying153 hi jz0 jz1 jz2 rfl (by decide) _ l.length _ rfl (HPRE.out.alloc _) ⟨w9.heap.size, 0, none⟩ 1 1 [.int .i64 n] rfl rfl (cell_one_new _ _ _) (by simp [Value.oneCell']) (by unfold maxLen; omega) (by omega) (by simp; omega) ?_; intro v1 w1 hown1 hgrow1 _; have hz1 := grown_size hgrow1) | (refine wpList_append_own _ rfl (.tmp 43) (.tmp 44) 153 rfl base 3 i0 _ 1 8 Tryd.underlying153 hi jz0 jz1 jz2 rfl (by decide) _ (l.length + 1) _ rfl hown1 a9 0 c9 [] rfl rfl (fun j u h => by simp at h) (fun u h => by cases h) (by unfold maxLen; omega) (by omega) (by omega) ?_; intro v2 w2 hown2 hgrow2 _))
          go_ret
          refine ⟨⟨_, rfl, by rw [HP.out]; exact Own.snoc hown2 rfl (by simp [encI])⟩, ?_⟩
          exact Below.grown (Below.grown (w := w9.alloc (.cells #[.int .i64 n] 3)) (((hb9.mono hb).alloc (by omega) _)) hgrow1 (by simp; omega) (fun g hg => (HPRE.out.lt g hg).1)) hgrow2 (by omega) (fun g hg => (hown1.lt g hg).1)

end Go.Proofs.YtmodofbelpaelaaDoor
