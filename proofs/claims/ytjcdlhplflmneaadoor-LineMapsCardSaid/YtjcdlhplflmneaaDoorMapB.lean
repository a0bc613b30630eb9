/- Timelines of words: joined, Pieces: walks. -/
import Derived.Test.YtjcdlhplflmneaaDoorNormC
namespace Go.Proofs.YtjcdlhplflmneaaDoor
open Go.RowKit

/-- a word of one letter -/
def wS (m : Fin 4) : ByteArray := ByteArray.extract ⟨#[97, 98, 99, 100]⟩ m.1 (m.1 + 1)
theorem wS_eq : ∀ a b : Fin 4, ((wS a).toList == (wS b).toList) = decide (a = b) := by decide +kernel
theorem wS_self (a : Fin 4) : ((wS a).toList == (wS a).toList) = true := by rw [wS_eq]; exact decide_eq_true rfl
theorem wS_ne {a b : Fin 4} (h : a ≠ b) : ((wS a).toList == (wS b).toList) = false := by rw [wS_eq]; exact decide_eq_false h
def encW (p : Pc (Fin 4)) : List Value := [.int .i64 p.f, .int .i64 p.t, .string (wS p.v)]
theorem encW_len (p : Pc (Fin 4)) : (encW p).length = 3 := rfl
theorem cells3W {w : World} {B k : Nat} {A : Option Addr} {l : List (Pc (Fin 4))} {p : Pc (Fin 4)} (h : RowAt encW 3 w B A l) (hp : l[k]? = some p) : ∃ g off, A = some ⟨g, off, none⟩ ∧ g < B ∧
    w.cell? ⟨g, off + k * 3, none⟩ = some (.int .i64 p.f) ∧ w.cell? ⟨g, off + k * 3 + 1, none⟩ = some (.int .i64 p.t) ∧ w.cell? ⟨g, off + k * 3 + 2, none⟩ = some (.string (wS p.v)) := by
  obtain ⟨g, off, rfl, hg, hc⟩ := h k p hp
  exact ⟨g, off, rfl, hg, hc 0 _ rfl, hc 1 _ rfl, hc 2 _ rfl⟩
theorem infoW : (Tryd.prog.info? 100).map (fun i => (i.zero, i.size, i.bytes)) = some (some (.agg #[.int .i64 0, .int .i64 0, .string ⟨#[]⟩]), 3, 32) := by kernel_rfl
theorem encW_one (l : List (Pc (Fin 4))) : ∀ u ∈ l.flatMap encW, u.oneCell' = true := by
  intro u hu
  obtain ⟨b, _, hb⟩ := List.mem_flatMap.1 hu
  simp only [encW, List.mem_cons, List.not_mem_nil, or_false] at hb
  rcases hb with rfl | rfl | rfl <;> rfl
theorem encW_flat (l : List (Pc (Fin 4))) : (l.flatMap encW).length = l.length * 3 := flat_len (fun x _ => encW_len x)

set_option maxRecDepth 10000 in
set_option maxHeartbeats 4000000 in
theorem piecesW_any (l : List (Pc (Fin 4))) (A : Option Addr) (c : Nat) (w : World) (hl : RowAt encW 3 w w.heap.size A l) (hm : l.length ≤ 1000000) (hA : A = none → c = 0) :
    Calls Tryd.prog 48 #[.agg #[.slice A l.length c]] w fun e w' => ∃ v, e = .returned v ∧ Own encW 3 100 w.heap.size w' v l ∧ Below w.heap.size w w' := by
  obtain ⟨inf0, hi, jz0, jz1, jz2⟩ := info_parts infoW
  obtain ⟨MC, hMC, hmk⟩ : ∃ MC : Array Value, MC.size = l.length * 3 ∧ ∀ w : World, (Instr.makeSlice 92 (.int .i64 0) (.int .i64 (l.length : Int))).run Tryd.prog w = .ok (.slice (some ⟨w.heap.size, 0, none⟩) 0 l.length) (w.alloc (.cells MC 100)) := by
    refine ⟨madeCells (Value.agg #[.int .i64 0, .int .i64 0, .string ⟨#[]⟩]).cells (l.length * inf0.size), by rw [size_madeCells, jz1], fun w => ?_⟩
    have h := run_make (P := Tryd.prog) (w := w) 92 100 inf0 _ Tryd.underlying92 hi jz0 .i64 .i64 0 (l.length : Int) (Int.le_refl _) (by omega) (by rw [jz2]; omega) (by omega)
    simpa using h
  have HL := Lib.hid hl
  have HA : Hid (A = none → l.length = 0 ∧ c = 0) := fun h => by
    refine ⟨?_, hA h⟩
    cases l with
    | nil => rfl
    | cons p r => obtain ⟨_, _, e, _⟩ := HL.out 0 p rfl; rw [h] at e; cases e
  clear hl hA
  have HF := Lib.hid (rowFlat encW_len (by decide) HL.out)
  have H1 := Lib.hid (encW_one l)
  have HN := Lib.hid (encW_flat l)
  go_enter Tryd.func48, Tryd.ntmps48
  go_wp2_with fail
  go_region_held_law (fun w' => w'.cell? ⟨w.heap.size, 0, none⟩ = some (.slice A l.length c)) (first | go_keep | exact (World.grownBy.cell_far hgrow9 ⟨w.heap.size, 0, none⟩ (by simp; omega) (by simp [Value.ownBlock])).trans ‹_›)
    ((refine step_append_any (by rfl) (.tmp 6) (.tmp 8) 92 (by rfl) w.heap.size 100 inf0 _ 3 32 Tryd.underlying92 hi jz0 jz1 jz2 rfl (by decide) _ 0 [] (by rfl) (made_own (by simp) (by simp) (by unfold maxLen; omega) hMC) A l.length c (l.flatMap encW) (by rfl) HN.out (fun ad ha j u hj => cell_drew (cell_alloc (cell_alloc (HF.out ad ha j u hj)))) HA.out H1.out (by unfold maxLen; omega) (by omega) (by simp; omega) ?_; intro v' w9 hown9 hgrow9))
  go_wp2_with fail
  go_ret
  refine ⟨_, rfl, ?_, Below.grown ?_ hgrow9 (by simp; omega) (fun k e => ?_)⟩
  · unfold Own; simpa using hown9
  · exact ((by (repeat' (first | with_reducible exact Below.refl _ _ | with_reducible assumption | with_reducible refine Below.drew ?_ | with_reducible refine below_drewN ?_ _ | with_reducible refine Below.setCell ?_ ?_ _ | with_reducible refine Below.alloc ?_ ?_ _ | omega | (simp; done) | (simp; omega))) : Below w.heap.size w ((w.alloc (.cells #[.slice A l.length c] 94)).alloc (.cells MC 100)))).drew
  · simp only [Value.ownBlock, Option.some.injEq] at e; omega

set_option maxRecDepth 10000 in
set_option maxHeartbeats 4000000 in
theorem joinedW_any (l : List (Pc (Fin 4))) (A : Option Addr) (c : Nat) (w : World) (hl : RowAt encW 3 w w.heap.size A l) (hm : l.length ≤ 1000000) :
    Calls Tryd.prog 84 #[.slice A l.length c] w fun e w' => (∃ A' c', e = .returned (.agg #[.slice A' (joinedL l).length c']) ∧ RowAt encW 3 w' w'.heap.size A' (joinedL l) ∧ (A' = none → c' = 0) ∧ (∀ a, A' = some a → w.heap.size ≤ a.block)) ∧ Below w.heap.size w w' := by
  obtain ⟨inf0, hi, jz0, jz1, jz2⟩ := info_parts infoW
  have HL := Lib.hid hl
  clear hl
  go_enter Tryd.func84, Tryd.ntmps84
  go_wp2_with fail
  go_loopw [3, 9] (fun v i wr => ∃ (k : Nat) (out : List (Pc (Fin 4))), k ≤ l.length ∧ out.length ≤ k ∧ i = .int .i64 k ∧ Own encW 3 100 (w.heap.size + 1) wr v out ∧
      Hid ((k = 0 ∧ out = []) ∨ ∃ pre q, out = pre ++ [q] ∧ pre ++ jc q (l.drop k) = joinedL l) ∧ Hid (wr.heap[w.heap.size]? = some (.cells #[.slice none 0 0] 94 (0, 0))) ∧ Below w.heap.size w wr) (fun _ i _ => l.length - (intOf i).toNat)
  case atStart => exact ⟨0, [], Nat.zero_le _, Nat.le_refl _, rfl, Own.nil, Lib.hid (.inl ⟨rfl, rfl⟩), blk_new rfl, by (repeat' (first | with_reducible exact Below.refl _ _ | with_reducible assumption | with_reducible refine Below.drew ?_ | with_reducible refine below_drewN ?_ _ | with_reducible refine Below.setCell ?_ ?_ _ | with_reducible refine Below.alloc ?_ ?_ _ | omega | (simp; done) | (simp; omega)))⟩
  case round =>
    obtain ⟨k, out, hk, ho, rfl, hown, hJ, R, hw0⟩ := hrel
    have z0 := hw0.size
    have lR := lt_of_H R
    by_cases hlt : k < l.length
    · obtain ⟨p, hp⟩ : ∃ p, l[k]? = some p := ⟨l[k], List.getElem?_eq_getElem hlt⟩
      obtain ⟨g, off, rfl, hg, k0, k1, k2⟩ := cells3W (HL.out.below hw0 (Nat.le_refl _)) hp
      have hlt2 : (k : Int) < (l.length : Int) := by omega
      have hdr := Lib.hid (drop_cons hp)
      clear hp
      rcases hJ.out with ⟨hk0, rfl⟩ | ⟨pre, q, rfl, hj⟩
      · obtain ⟨A2, c2, rfl, _, _, _⟩ := Own.rows (fun x _ => encW_len x) hown
        have HO := Lib.hid hown
        have HPL : Hid (([] : List (Pc (Fin 4))).length = 0) := rfl
        have HJ : Hid ([] ++ jc p (l.drop (k + 1)) = joinedL l) := by
          show _ = _
          have h := hdr.out
          rw [hk0, List.drop_zero] at h
          rw [hk0, List.nil_append]
          conv => rhs; rw [h]
          rfl
        clear hown hJ hk0
        go_wp2_with fail
        go_quiet (fail)
        go_wp2_with (at_builtin; go_must (refine wpList_append_own _ rfl (.tmp 50) (.tmp 52) 92 rfl (w.heap.size + 1) 100 inf0 _ 3 32 Tryd.underlying92 hi jz0 jz1 jz2 rfl (by decide) _ 0 _ rfl (own_below HO.out (by (repeat' (first | with_reducible exact Below.refl _ _ | with_reducible assumption | with_reducible refine Below.drew ?_ | with_reducible refine below_drewN ?_ _ | with_reducible refine Below.setCell ?_ ?_ _ | with_reducible refine Below.alloc ?_ ?_ _ | omega | (simp; done) | (simp; omega))))) ⟨wr.heap.size + 1, 0, none⟩ 1 1 [.int .i64 p.f, .int .i64 p.t, .string (wS p.v)] rfl rfl (World.news_of_block (cs := #[.int .i64 p.f, .int .i64 p.t, .string (wS p.v)]) (blk_new (by simp))) (by simp [Value.oneCell']) (by unfold maxLen; omega) (by omega) (by simp; omega) ?_); intro v' w9 hown9 hgrow9 _)
        go_roundw
        case rel =>
          refine ⟨k + 1, [] ++ [p], by omega, (by simp only [List.length_append, List.length_cons, List.length_nil] at ho ⊢; omega), by go_num, ?_, Lib.hid (.inr ⟨[], p, rfl, HJ.out⟩), ?_, ?_⟩
          · exact Own.snoc hown9 (by simp [HPL.out]) (by simp [encW])
          · exact (hgrow9.block _ (by simp; omega) (fun e => by have := (HO.out.lt _ e.symm).1; omega)).trans (by first | exact blk_old (drew_old (blk_old R.out)) | exact blk_old (blk_old R.out))
          · exact Below.grown (by (repeat' (first | with_reducible exact Below.refl _ _ | with_reducible assumption | with_reducible refine Below.drew ?_ | with_reducible refine below_drewN ?_ _ | with_reducible refine Below.setCell ?_ ?_ _ | with_reducible refine Below.alloc ?_ ?_ _ | omega | (simp; done) | (simp; omega)))) hgrow9 (by simp; omega) (fun g hg => by have := (HO.out.lt g hg).1; omega)
        case measure => simp [intOf]; omega
      · obtain ⟨g2, c2, rfl, hg2, hc2, hrow2, hfz⟩ := own_cells (fun x _ => encW_len x) (by simp) hown
        obtain ⟨m, hm2⟩ : ∃ m, pre.length = m := ⟨_, rfl⟩
        have hlen : (pre ++ [q]).length = m + 1 := by simp [hm2]
        have hq : (pre ++ [q])[m]? = some q := by rw [← hm2]; simp
        obtain ⟨g3, off3, e3, hg3, j0, j1, j2⟩ := cells3W hrow2 hq
        cases e3
        have HO : Hid (wr.ownsRow (w.heap.size + 1) 100 3 (.slice (some ⟨g2, 0, none⟩) (m + 1) c2) (m + 1) ((pre ++ [q]).flatMap encW)) := by
          have h := hown
          unfold Own at h
          rw [hlen] at h
          exact h
        have HPL := Lib.hid hm2
        have ho2 : m + 1 ≤ k := by rw [← hlen]; exact ho
        rw [hlen]
        rw [Nat.zero_add] at j0 j1 j2
        clear hown hJ hm2 hlen hq hrow2
        by_cases hT : q.t = p.f
        · by_cases hV : q.v = p.v
          · have HJ : Hid (pre ++ jc ⟨q.f, p.t, q.v⟩ (l.drop (k + 1)) = joinedL l) := by show _ = _; rw [← hj, hdr.out, jc_join ⟨hT, hV⟩]
            have e1 : (q.t == p.f) = true := by simp [hT]
            have e2 : ((wS q.v).toList == (wS p.v).toList) = true := by rw [hV]; exact wS_self _
            clear hj hT hV
            go_wp2_with fail
            go_quiet (fail)
            go_wp2_with fail
            go_roundw
            case rel =>
              refine ⟨k + 1, pre ++ [⟨q.f, p.t, q.v⟩], by omega, (by simp only [List.length_append, List.length_cons, List.length_nil] at ho ⊢; omega), by go_num, ?_, Lib.hid (.inr ⟨pre, _, rfl, HJ.out⟩), ?_, ?_⟩
              · have h := own_set (i := m * 3 + 1) (own_below HO.out (w' := (wr.alloc (.cells #[.int .i64 p.f, .int .i64 p.t, .string (wS p.v)] 100)).drewN nq) (by (repeat' (first | with_reducible exact Below.refl _ _ | with_reducible assumption | with_reducible refine Below.drew ?_ | with_reducible refine below_drewN ?_ _ | with_reducible refine Below.setCell ?_ ?_ _ | with_reducible refine Below.alloc ?_ ?_ _ | omega | (simp; done) | (simp; omega))))) (by omega) (.int .i64 p.t)
                have e := flat_set_last encW_len pre q ⟨q.f, p.t, q.v⟩ 1 (.int .i64 p.t) rfl (by decide)
                rw [HPL.out] at e
                rw [e] at h
                unfold Own
                rw [show (pre ++ [(⟨q.f, p.t, q.v⟩ : Pc (Fin 4))]).length = m + 1 by simp [HPL.out]]
                exact h
              · exact setOther (blk_old R.out) (by dsimp only; omega)
              · (repeat' (first | with_reducible exact Below.refl _ _ | with_reducible assumption | with_reducible refine Below.drew ?_ | with_reducible refine below_drewN ?_ _ | with_reducible refine Below.setCell ?_ ?_ _ | with_reducible refine Below.alloc ?_ ?_ _ | omega | (simp; done) | (simp; omega)))
            case measure => simp [intOf]; omega
          · have HJ : Hid ((pre ++ [q]) ++ jc p (l.drop (k + 1)) = joinedL l) := by show _ = _; rw [← hj, hdr.out, jc_keep (fun h => hV h.2)]; simp
            have e1 : (q.t == p.f) = true := by simp [hT]
            have e2 : ((wS q.v).toList == (wS p.v).toList) = false := wS_ne hV
            clear hj hT hV
            go_wp2_with fail
            go_quiet (fail)
            go_wp2_with (at_builtin; go_must (refine wpList_append_own _ rfl (.tmp 50) (.tmp 52) 92 rfl (w.heap.size + 1) 100 inf0 _ 3 32 Tryd.underlying92 hi jz0 jz1 jz2 rfl (by decide) _ (m + 1) _ rfl (own_below HO.out (by (repeat' (first | with_reducible exact Below.refl _ _ | with_reducible assumption | with_reducible refine Below.drew ?_ | with_reducible refine below_drewN ?_ _ | with_reducible refine Below.setCell ?_ ?_ _ | with_reducible refine Below.alloc ?_ ?_ _ | omega | (simp; done) | (simp; omega))))) ⟨wr.heap.size + 1, 0, none⟩ 1 1 [.int .i64 p.f, .int .i64 p.t, .string (wS p.v)] rfl rfl (World.news_of_block (cs := #[.int .i64 p.f, .int .i64 p.t, .string (wS p.v)]) (blk_new (by simp))) (by simp [Value.oneCell']) (by unfold maxLen; omega) (by omega) (by simp; omega) ?_); intro v' w9 hown9 hgrow9 _)
            go_roundw
            case rel =>
              refine ⟨k + 1, (pre ++ [q]) ++ [p], by omega, (by simp only [List.length_append, List.length_cons, List.length_nil] at ho ⊢; omega), by go_num, ?_, Lib.hid (.inr ⟨pre ++ [q], p, rfl, HJ.out⟩), ?_, ?_⟩
              · exact Own.snoc hown9 (by simp [HPL.out]) (by simp [encW])
              · exact (hgrow9.block _ (by simp; omega) (fun e => by have := (HO.out.lt _ e.symm).1; omega)).trans (by first | exact blk_old (drew_old (blk_old R.out)) | exact blk_old (blk_old R.out))
              · exact Below.grown (by (repeat' (first | with_reducible exact Below.refl _ _ | with_reducible assumption | with_reducible refine Below.drew ?_ | with_reducible refine below_drewN ?_ _ | with_reducible refine Below.setCell ?_ ?_ _ | with_reducible refine Below.alloc ?_ ?_ _ | omega | (simp; done) | (simp; omega)))) hgrow9 (by simp; omega) (fun g hg => by have := (HO.out.lt g hg).1; omega)
            case measure => simp [intOf]; omega
        · have HJ : Hid ((pre ++ [q]) ++ jc p (l.drop (k + 1)) = joinedL l) := by show _ = _; rw [← hj, hdr.out, jc_keep (fun h => hT h.1)]; simp
          have e1 : (q.t == p.f) = false := by simp [hT]
          clear hj hT
          go_wp2_with fail
          go_quiet (fail)
          go_wp2_with (at_builtin; go_must (refine wpList_append_own _ rfl (.tmp 50) (.tmp 52) 92 rfl (w.heap.size + 1) 100 inf0 _ 3 32 Tryd.underlying92 hi jz0 jz1 jz2 rfl (by decide) _ (m + 1) _ rfl (own_below HO.out (by (repeat' (first | with_reducible exact Below.refl _ _ | with_reducible assumption | with_reducible refine Below.drew ?_ | with_reducible refine below_drewN ?_ _ | with_reducible refine Below.setCell ?_ ?_ _ | with_reducible refine Below.alloc ?_ ?_ _ | omega | (simp; done) | (simp; omega))))) ⟨wr.heap.size + 1, 0, none⟩ 1 1 [.int .i64 p.f, .int .i64 p.t, .string (wS p.v)] rfl rfl (World.news_of_block (cs := #[.int .i64 p.f, .int .i64 p.t, .string (wS p.v)]) (blk_new (by simp))) (by simp [Value.oneCell']) (by unfold maxLen; omega) (by omega) (by simp; omega) ?_); intro v' w9 hown9 hgrow9 _)
          go_roundw
          case rel =>
            refine ⟨k + 1, (pre ++ [q]) ++ [p], by omega, (by simp only [List.length_append, List.length_cons, List.length_nil] at ho ⊢; omega), by go_num, ?_, Lib.hid (.inr ⟨pre ++ [q], p, rfl, HJ.out⟩), ?_, ?_⟩
            · exact Own.snoc hown9 (by simp [HPL.out]) (by simp [encW])
            · exact (hgrow9.block _ (by simp; omega) (fun e => by have := (HO.out.lt _ e.symm).1; omega)).trans (by first | exact blk_old (drew_old (blk_old R.out)) | exact blk_old (blk_old R.out))
            · exact Below.grown (by (repeat' (first | with_reducible exact Below.refl _ _ | with_reducible assumption | with_reducible refine Below.drew ?_ | with_reducible refine below_drewN ?_ _ | with_reducible refine Below.setCell ?_ ?_ _ | with_reducible refine Below.alloc ?_ ?_ _ | omega | (simp; done) | (simp; omega)))) hgrow9 (by simp; omega) (fun g hg => by have := (HO.out.lt g hg).1; omega)
          case measure => simp [intOf]; omega
    · obtain rfl : k = l.length := by omega
      have HE : Hid (out = joinedL l) := by
        show _ = _
        rcases hJ.out with ⟨h0, rfl⟩ | ⟨pre, q, rfl, hj⟩
        · rw [List.eq_nil_of_length_eq_zero h0]; rfl
        · rw [← hj, List.drop_length]; rfl
      have cR := cellH R
      have fzR := frozH R
      have HK := Lib.hid hown
      obtain ⟨A2, c2, rfl, hr2, hA2, hA3⟩ := own_line (fun x _ => encW_len x) hown
      clear hown hJ hr2
      go_wp2_with fail
      refine bodyPost_ret (v := .agg #[.slice A2 out.length c2]) (by simp [results, Tryd.results84, go_sem, cR]) rfl ⟨⟨A2, c2, by rw [HE.out], ?_, hA2, fun a ha => by have := hA3 a ha; omega⟩, by (repeat' (first | with_reducible exact Below.refl _ _ | with_reducible assumption | with_reducible refine Below.drew ?_ | with_reducible refine below_drewN ?_ _ | with_reducible refine Below.setCell ?_ ?_ _ | with_reducible refine Below.alloc ?_ ?_ _ | omega | (simp; done) | (simp; omega)))⟩
      have ho := HK.out.kept (grownBy_setCell' wr w.heap.size (.slice A2 out.length c2)) (.inr (fun e => by have := (HK.out.lt _ e).1; omega))
      obtain ⟨A3, c3, e3, hr3, _, _⟩ := own_line (fun x _ => encW_len x) ho
      cases e3
      rw [← HE.out]
      exact hr3

end Go.Proofs.YtjcdlhplflmneaaDoor
