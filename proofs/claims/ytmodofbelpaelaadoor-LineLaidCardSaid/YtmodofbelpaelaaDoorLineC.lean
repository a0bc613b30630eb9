/- Timelines: pieces that touch put together: walk. -/
import Derived.Test.YtmodofbelpaelaaDoorLineB
import Derived.Test.YtmodofbelpaelaaDoorSeq
namespace Go.Proofs.YtmodofbelpaelaaDoor
open Go.RowKit

theorem own_set {W : World} {base e size g n cap i : Nat} {xs : List Value} (h : W.ownsRow base e size (.slice (some ⟨g, 0, none⟩) n cap) n xs) (_hi : i < n * size) (u : Value) : (W.setCell ⟨g, i, none⟩ u).ownsRow base e size (.slice (some ⟨g, 0, none⟩) n cap) n (xs.set i u) := by
  obtain ⟨hlen, hc⟩ := h
  rcases hc with ⟨h0, _⟩ | ⟨g', cap', cur, hv, hb, hg, h1, h2, h3, h4⟩
  · cases h0
  cases hv
  refine ⟨by rw [List.length_set]; exact hlen, .inr ⟨g, _, cur.setIfInBounds i u, rfl, hb, ?_, h1, h2, by rw [Array.size_setIfInBounds]; exact h3, ?_⟩⟩
  · simp [World.setCell, Array.getElem?_modify, hg]
  · rw [Array.toList_setIfInBounds, List.take_set, h4]

/-- the last one of a row -/
theorem flat_set_last {α : Type} {enc : α → List Value} {size : Nat} (hs : ∀ x, (enc x).length = size) (pre : List α) (q q' : α) (j : Nat) (u : Value) (hq : (enc q).set j u = enc q') (_hj : j < size) : ((pre ++ [q]).flatMap enc).set (pre.length * size + j) u = (pre ++ [q']).flatMap enc := by
  have hl : (pre.flatMap enc).length = pre.length * size := flat_len (fun x _ => hs x)
  rw [List.flatMap_append, List.flatMap_append, ← hl, List.set_append_right _ _ (by omega)]
  simp only [Nat.add_sub_cancel_left, List.flatMap_cons, List.flatMap_nil, List.append_nil, hq]

theorem own_cells {α : Type} {enc : α → List Value} {size e base : Nat} {w : World} {v : Value} {l : List α} (hs : ∀ x ∈ l, (enc x).length = size) (hl : l ≠ []) (h : Own enc size e base w v l) : ∃ g c, v = .slice (some ⟨g, 0, none⟩) l.length c ∧ base ≤ g ∧ l.length ≤ c ∧ RowAt enc size w w.heap.size (some ⟨g, 0, none⟩) l ∧ ∀ o, w.frozen? ⟨g, o, none⟩ = false := by
  obtain ⟨A, c, hv, hc, _, hr⟩ := Own.rows hs h
  obtain ⟨hlen, hcc⟩ := h
  rcases hcc with ⟨h0, h1⟩ | ⟨g, cp, cur, hv', hb, hg, _⟩
  · exact absurd (List.eq_nil_of_length_eq_zero h1) hl
  · rw [hv'] at hv
    cases hv
    exact ⟨g, c, hv', hb, hc, hr, fun o => by simp [World.frozen?, hg]⟩

theorem own_line {α : Type} {enc : α → List Value} {size e base : Nat} {w : World} {v : Value} {l : List α} (hs : ∀ x ∈ l, (enc x).length = size) (h : Own enc size e base w v l) : ∃ A c, v = .slice A l.length c ∧ RowAt enc size w w.heap.size A l ∧ (A = none → c = 0) ∧ (∀ a, A = some a → base ≤ a.block) := by
  obtain ⟨A, c, hv, _, _, hr⟩ := Own.rows hs h
  refine ⟨A, c, hv, hr, fun hA => ?_, fun a ha => ?_⟩
  · rcases h.2 with ⟨h0, _⟩ | ⟨g, cp, cur, hv', _⟩
    · rw [h0] at hv; injection hv with _ _ h3; exact h3.symm
    · rw [hv'] at hv; injection hv with h1; rw [hA] at h1; cases h1
  · rcases h.2 with ⟨h0, _⟩ | ⟨g, cp, cur, hv', hb, _⟩
    · rw [h0] at hv; injection hv with h1; rw [ha] at h1; cases h1
    · rw [hv'] at hv; injection hv with h1; rw [ha] at h1; cases h1; exact hb

theorem rowKeepL {α : Type} {enc : α → List Value} {size : Nat} {B B' : Nat} {w w' : World} {A : Option Addr} {l : List α} (h : RowAt enc size w B A l) (hB : B ≤ B') (hk : ∀ a, A = some a → w'.heap[a.block]? = w.heap[a.block]?) : RowAt enc size w' B' A l := fun k x hx => by
  obtain ⟨b, off, e, h2, h3⟩ := h k x hx
  have hq : w'.heap[b]? = w.heap[b]? := hk _ e
  exact ⟨b, off, e, by omega, fun j u hj => (World.cell?_of_block (a := ⟨b, off + k * size + j, none⟩) hq).trans (h3 j u hj)⟩

theorem undrew {n : Nat} {w w' : World} (h : Below n w.drew w') : Below n w w' := ⟨h.os, h.tape, h.output, h.size, h.block⟩

theorem drop_cons {α : Type} {l : List α} {k : Nat} {p : α} (hp : l[k]? = some p) : l.drop k = p :: l.drop (k + 1) := by
  have hlt : k < l.length := (List.getElem?_eq_some_iff.1 hp).1
  rw [List.drop_eq_getElem_cons hlt]
  congr 1
  exact Option.some.inj ((List.getElem?_eq_getElem hlt).symm.trans hp)

set_option maxRecDepth 10000 in
set_option maxHeartbeats 4000000 in
theorem joined6_any (l : List (Pc Int)) (A : Option Addr) (c : Nat) (w : World) (hl : RowAt encP 3 w w.heap.size A l) (hm : l.length ≤ 1000000) :
    Calls Tryd.prog 118 #[.slice A l.length c] w fun e w' => (∃ A' c', e = .returned (.agg #[.slice A' (joinedL l).length c']) ∧ RowAt encP 3 w' w'.heap.size A' (joinedL l) ∧ (A' = none → c' = 0) ∧ (∀ a, A' = some a → w.heap.size ≤ a.block)) ∧ Below w.heap.size w w' := by
  obtain ⟨inf0, hi, jz0, jz1, jz2⟩ := info_parts infoPc
  have HL := Lib.hid hl
  clear hl
  go_enter Tryd.func118, Tryd.ntmps118
  go_wp2_with fail
  go_loopw [3, 9] (fun v i wr => ∃ (k : Nat) (out : List (Pc Int)), k ≤ l.length ∧ out.length ≤ k ∧ i = .int .i64 k ∧ Own encP 3 113 (w.heap.size + 1) wr v out ∧
      Hid ((k = 0 ∧ out = []) ∨ ∃ pre q, out = pre ++ [q] ∧ pre ++ jc q (l.drop k) = joinedL l) ∧ Hid (wr.heap[w.heap.size]? = some (.cells #[.slice none 0 0] 62 (0, 0))) ∧ Below w.heap.size w wr) (fun _ i _ => l.length - (intOf i).toNat)
  case atStart => exact ⟨0, [], Nat.zero_le _, Nat.le_refl _, rfl, Own.nil, Lib.hid (.inl ⟨rfl, rfl⟩), blk_new rfl, by (repeat' (first | with_reducible exact Below.refl _ _ | with_reducible assumption | with_reducible refine Below.drew ?_ | with_reducible refine below_drewN ?_ _ | with_reducible refine Below.setCell ?_ ?_ _ | with_reducible refine Below.alloc ?_ ?_ _ | omega | (simp; done) | (simp; omega)))⟩
  case round =>
    obtain ⟨k, out, hk, ho, rfl, hown, hJ, R, hw0⟩ := hrel
    have z0 := hw0.size
    have lR := lt_of_H R
    by_cases hlt : k < l.length
    · obtain ⟨p, hp⟩ : ∃ p, l[k]? = some p := ⟨l[k], List.getElem?_eq_getElem hlt⟩
      obtain ⟨g, off, rfl, hg, k0, k1, k2⟩ := cells3 (HL.out.below hw0 (Nat.le_refl _)) hp
      have hlt2 : (k : Int) < (l.length : Int) := by omega
      have hdr := Lib.hid (drop_cons hp)
      clear hp
      rcases hJ.out with ⟨hk0, rfl⟩ | ⟨pre, q, rfl, hj⟩
      · obtain ⟨A2, c2, rfl, _, _, _⟩ := Own.rows (fun x _ => encP_len x) hown
        have HO := Lib.hid hown
        have HPL : Hid (([] : List (Pc Int)).length = 0) := rfl
        have HJ : Hid ([] ++ jc p (l.drop (k + 1)) = joinedL l) := by
          show _ = _
          have h := hdr.out
          rw [hk0, List.drop_zero] at h
          rw [hk0, List.nil_append]
          conv => rhs; rw [h]
          rfl
        clear hown hJ hk0
        go_wp2_with fail
        go_quiet (fail)
        go_wp2_with (at_builtin; go_must (refine wpList_append_own _ rfl (.tmp 50) (.tmp 52) 60 rfl (w.heap.size + 1) 113 inf0 _ 3 24 Tryd.underlying60 hi jz0 jz1 jz2 rfl (by decide) _ 0 _ rfl (own_below HO.out (by (repeat' (first | with_reducible exact Below.refl _ _ | with_reducible assumption | with_reducible refine Below.drew ?_ | with_reducible refine below_drewN ?_ _ | with_reducible refine Below.setCell ?_ ?_ _ | with_reducible refine Below.alloc ?_ ?_ _ | omega | (simp; done) | (simp; omega))))) ⟨wr.heap.size + 1, 0, none⟩ 1 1 [.int .i64 p.f, .int .i64 p.t, .int .i64 p.v] rfl rfl (World.news_of_block (cs := #[.int .i64 p.f, .int .i64 p.t, .int .i64 p.v]) (blk_new (by simp))) (by simp [Value.oneCell']) (by unfold maxLen; omega) (by omega) (by simp; omega) ?_); intro v' w9 hown9 hgrow9 _)
        go_roundw
        case rel =>
          refine ⟨k + 1, [] ++ [p], by omega, (by simp only [List.length_append, List.length_cons, List.length_nil] at ho ⊢; omega), by go_num, ?_, Lib.hid (.inr ⟨[], p, rfl, HJ.out⟩), ?_, ?_⟩
          · exact Own.snoc hown9 (by simp [HPL.out]) (by simp [encP])
          · exact (hgrow9.block _ (by simp; omega) (fun e => by have := (HO.out.lt _ e.symm).1; omega)).trans (by first | exact blk_old (drew_old (blk_old R.out)) | exact blk_old (blk_old R.out))
          · exact Below.grown (by (repeat' (first | with_reducible exact Below.refl _ _ | with_reducible assumption | with_reducible refine Below.drew ?_ | with_reducible refine below_drewN ?_ _ | with_reducible refine Below.setCell ?_ ?_ _ | with_reducible refine Below.alloc ?_ ?_ _ | omega | (simp; done) | (simp; omega)))) hgrow9 (by simp; omega) (fun g hg => by have := (HO.out.lt g hg).1; omega)
        case measure => simp [intOf]; omega
      · obtain ⟨g2, c2, rfl, hg2, hc2, hrow2, hfz⟩ := own_cells (fun x _ => encP_len x) (by simp) hown
        obtain ⟨m, hm2⟩ : ∃ m, pre.length = m := ⟨_, rfl⟩
        have hlen : (pre ++ [q]).length = m + 1 := by simp [hm2]
        have hq : (pre ++ [q])[m]? = some q := by rw [← hm2]; simp
        obtain ⟨g3, off3, e3, hg3, j0, j1, j2⟩ := cells3 hrow2 hq
        cases e3
        have HO : Hid (wr.ownsRow (w.heap.size + 1) 113 3 (.slice (some ⟨g2, 0, none⟩) (m + 1) c2) (m + 1) ((pre ++ [q]).flatMap encP)) := by
          have h := hown
          unfold Own at h
          rw [hlen] at h
          exact h
        have HPL := Lib.hid hm2
        have ho2 : m + 1 ≤ k := by rw [← hlen]; exact ho
        rw [hlen]
        rw [Nat.zero_add] at j0 j1 j2
        clear hown hJ hm2 hlen hq hrow2
        by_cases hT : q.t = p.f
        · by_cases hV : q.v = p.v
          · have HJ : Hid (pre ++ jc ⟨q.f, p.t, q.v⟩ (l.drop (k + 1)) = joinedL l) := by show _ = _; rw [← hj, hdr.out, jc_join ⟨hT, hV⟩]
            have e1 : (q.t == p.f) = true := by simp [hT]
            have e2 : (q.v == p.v) = true := by simp [hV]
            clear hj hT hV
            go_wp2_with fail
            go_quiet (fail)
            go_wp2_with fail
            go_roundw
            case rel =>
              refine ⟨k + 1, pre ++ [⟨q.f, p.t, q.v⟩], by omega, (by simp only [List.length_append, List.length_cons, List.length_nil] at ho ⊢; omega), by go_num, ?_, Lib.hid (.inr ⟨pre, _, rfl, HJ.out⟩), ?_, ?_⟩
              · have h := own_set (i := m * 3 + 1) (own_below HO.out (w' := (wr.alloc (.cells #[.int .i64 p.f, .int .i64 p.t, .int .i64 p.v] 113)).drewN nq) (by (repeat' (first | with_reducible exact Below.refl _ _ | with_reducible assumption | with_reducible refine Below.drew ?_ | with_reducible refine below_drewN ?_ _ | with_reducible refine Below.setCell ?_ ?_ _ | with_reducible refine Below.alloc ?_ ?_ _ | omega | (simp; done) | (simp; omega))))) (by omega) (.int .i64 p.t)
                have e := flat_set_last encP_len pre q ⟨q.f, p.t, q.v⟩ 1 (.int .i64 p.t) rfl (by decide)
                rw [HPL.out] at e
                rw [e] at h
                unfold Own
                rw [show (pre ++ [(⟨q.f, p.t, q.v⟩ : Pc Int)]).length = m + 1 by simp [HPL.out]]
                exact h
              · exact setOther (blk_old R.out) (by dsimp only; omega)
              · (repeat' (first | with_reducible exact Below.refl _ _ | with_reducible assumption | with_reducible refine Below.drew ?_ | with_reducible refine below_drewN ?_ _ | with_reducible refine Below.setCell ?_ ?_ _ | with_reducible refine Below.alloc ?_ ?_ _ | omega | (simp; done) | (simp; omega)))
            case measure => simp [intOf]; omega
          · have HJ : Hid ((pre ++ [q]) ++ jc p (l.drop (k + 1)) = joinedL l) := by show _ = _; rw [← hj, hdr.out, jc_keep (fun h => hV h.2)]; simp
            have e1 : (q.t == p.f) = true := by simp [hT]
            have e2 : (q.v == p.v) = false := by simp [hV]
            clear hj hT hV
            go_wp2_with fail
            go_quiet (fail)
            go_wp2_with (at_builtin; go_must (refine wpList_append_own _ rfl (.tmp 50) (.tmp 52) 60 rfl (w.heap.size + 1) 113 inf0 _ 3 24 Tryd.underlying60 hi jz0 jz1 jz2 rfl (by decide) _ (m + 1) _ rfl (own_below HO.out (by (repeat' (first | with_reducible exact Below.refl _ _ | with_reducible assumption | with_reducible refine Below.drew ?_ | with_reducible refine below_drewN ?_ _ | with_reducible refine Below.setCell ?_ ?_ _ | with_reducible refine Below.alloc ?_ ?_ _ | omega | (simp; done) | (simp; omega))))) ⟨wr.heap.size + 1, 0, none⟩ 1 1 [.int .i64 p.f, .int .i64 p.t, .int .i64 p.v] rfl rfl (World.news_of_block (cs := #[.int .i64 p.f, .int .i64 p.t, .int .i64 p.v]) (blk_new (by simp))) (by simp [Value.oneCell']) (by unfold maxLen; omega) (by omega) (by simp; omega) ?_); intro v' w9 hown9 hgrow9 _)
            go_roundw
            case rel =>
              refine ⟨k + 1, (pre ++ [q]) ++ [p], by omega, (by simp only [List.length_append, List.length_cons, List.length_nil] at ho ⊢; omega), by go_num, ?_, Lib.hid (.inr ⟨pre ++ [q], p, rfl, HJ.out⟩), ?_, ?_⟩
              · exact Own.snoc hown9 (by simp [HPL.out]) (by simp [encP])
              · exact (hgrow9.block _ (by simp; omega) (fun e => by have := (HO.out.lt _ e.symm).1; omega)).trans (by first | exact blk_old (drew_old (blk_old R.out)) | exact blk_old (blk_old R.out))
              · exact Below.grown (by (repeat' (first | with_reducible exact Below.refl _ _ | with_reducible assumption | with_reducible refine Below.drew ?_ | with_reducible refine below_drewN ?_ _ | with_reducible refine Below.setCell ?_ ?_ _ | with_reducible refine Below.alloc ?_ ?_ _ | omega | (simp; done) | (simp; omega)))) hgrow9 (by simp; omega) (fun g hg => by have := (HO.out.lt g hg).1; omega)
            case measure => simp [intOf]; omega
        · have HJ : Hid ((pre ++ [q]) ++ jc p (l.drop (k + 1)) = joinedL l) := by show _ = _; rw [← hj, hdr.out, jc_keep (fun h => hT h.1)]; simp
          have e1 : (q.t == p.f) = false := by simp [hT]
          clear hj hT
          go_wp2_with fail
          go_quiet (fail)
          go_wp2_with (at_builtin; go_must (refine wpList_append_own _ rfl (.tmp 50) (.tmp 52) 60 rfl (w.heap.size + 1) 113 inf0 _ 3 24 Tryd.underlying60 hi jz0 jz1 jz2 rfl (by decide) _ (m + 1) _ rfl (own_below HO.out (by (repeat' (first | with_reducible exact Below.refl _ _ | with_reducible assumption | with_reducible refine Below.drew ?_ | with_reducible refine below_drewN ?_ _ | with_reducible refine Below.setCell ?_ ?_ _ | with_reducible refine Below.alloc ?_ ?_ _ | omega | (simp; done) | (simp; omega))))) ⟨wr.heap.size + 1, 0, none⟩ 1 1 [.int .i64 p.f, .int .i64 p.t, .int .i64 p.v] rfl rfl (World.news_of_block (cs := #[.int .i64 p.f, .int .i64 p.t, .int .i64 p.v]) (blk_new (by simp))) (by simp [Value.oneCell']) (by unfold maxLen; omega) (by omega) (by simp; omega) ?_); intro v' w9 hown9 hgrow9 _)
          go_roundw
          case rel =>
            refine ⟨k + 1, (pre ++ [q]) ++ [p], by omega, (by simp only [List.length_append, List.length_cons, List.length_nil] at ho ⊢; omega), by go_num, ?_, Lib.hid (.inr ⟨pre ++ [q], p, rfl, HJ.out⟩), ?_, ?_⟩
            · exact Own.snoc hown9 (by simp [HPL.out]) (by simp [encP])
            · exact (hgrow9.block _ (by simp; omega) (fun e => by have := (HO.out.lt _ e.symm).1; omega)).trans (by first | exact blk_old (drew_old (blk_old R.out)) | exact blk_old (blk_old R.out))
            · exact Below.grown (by (repeat' (first | with_reducible exact Below.refl _ _ | with_reducible assumption | with_reducible refine Below.drew ?_ | with_reducible refine below_drewN ?_ _ | with_reducible refine Below.setCell ?_ ?_ _ | with_reducible refine Below.alloc ?_ ?_ _ | omega | (simp; done) | (simp; omega)))) hgrow9 (by simp; omega) (fun g hg => by have := (HO.out.lt g hg).1; omega)
          case measure => simp [intOf]; omega
    · obtain rfl : k = l.length := by omega
      have HE : Hid (out = joinedL l) := by
        show _ = _
        rcases hJ.out with ⟨h0, rfl⟩ | ⟨pre, q, rfl, hj⟩
        · rw [List.eq_nil_of_length_eq_zero h0]; rfl
        · rw [← hj, List.drop_length]; rfl
      have cR := cellH R
      have fzR := frozH R
      have HK := Lib.hid hown
      obtain ⟨A2, c2, rfl, hr2, hA2, hA3⟩ := own_line (fun x _ => encP_len x) hown
      clear hown hJ hr2
      go_wp2_with fail
      refine bodyPost_ret (v := .agg #[.slice A2 out.length c2]) (by simp [results, Tryd.results118, go_sem, cR]) rfl ⟨⟨A2, c2, by rw [HE.out], ?_, hA2, fun a ha => by have := hA3 a ha; omega⟩, by (repeat' (first | with_reducible exact Below.refl _ _ | with_reducible assumption | with_reducible refine Below.drew ?_ | with_reducible refine below_drewN ?_ _ | with_reducible refine Below.setCell ?_ ?_ _ | with_reducible refine Below.alloc ?_ ?_ _ | omega | (simp; done) | (simp; omega)))⟩
      have ho := HK.out.kept (grownBy_setCell' wr w.heap.size (.slice A2 out.length c2)) (.inr (fun e => by have := (HK.out.lt _ e).1; omega))
      obtain ⟨A3, c3, e3, hr3, _, _⟩ := own_line (fun x _ => encP_len x) ho
      cases e3
      rw [← HE.out]
      exact hr3

end Go.Proofs.YtmodofbelpaelaaDoor
