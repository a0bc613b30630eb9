/- Spans cloned, sorted, put together: walks. -/
import Derived.Test.YtmodofbelpaelaaDoorDayA
namespace Go.Proofs.YtmodofbelpaelaaDoor
open Go.RowKit

theorem infoSp : (Tryd.prog.info? 91).map (fun i => (i.zero, i.size, i.bytes)) = some (some (.agg #[.int .i64 0, .int .i64 0]), 2, 16) := by kernel_rfl

set_option maxRecDepth 100000 in
set_option maxHeartbeats 4000000 in
theorem cloneS_any (s : List (Pc Unit)) (A : Option Addr) (c : Nat) (w : World) (hl : RowAt encU 2 w w.heap.size A s) (hm : s.length ≤ 1000000) :
    Calls Tryd.prog 112 #[.slice A s.length c] w fun e w' => (∃ v, e = .returned v ∧ Own encU 2 91 w.heap.size w' v s) ∧ Below w.heap.size w w' := by
  obtain ⟨inf0, hi, jz0, jz1, jz2⟩ := info_parts infoSp
  have HL := Lib.hid hl
  clear hl
  cases A with
  | none =>
    obtain rfl : s = [] := by
      cases s with
      | nil => rfl
      | cons b r => obtain ⟨_, _, e, _⟩ := HL.out 0 b rfl; cases e
    have hsn := fun (w : World) => Lib.run_eql_slice_nil (P := Tryd.prog) w 59 91 none 0 c 0 0 Tryd.underlying59
    go_enter Tryd.func112, Tryd.ntmps112
    go_wp2_with fail
    go_ret
    exact ⟨⟨_, rfl, Own.nil⟩, by (repeat' (first | with_reducible exact Below.refl _ _ | with_reducible assumption | with_reducible refine Below.drew ?_ | with_reducible refine below_drewN ?_ _ | with_reducible refine Below.setCell ?_ ?_ _ | with_reducible refine Below.alloc ?_ ?_ _ | omega | (simp; done) | (simp; omega)))⟩
  | some a =>
    have hsn := fun (w : World) => Lib.run_eql_slice_nil (P := Tryd.prog) w 59 91 (some a) s.length c 0 0 Tryd.underlying59
    have HN := Lib.hid (encU_flat s)
    have H1 := Lib.hid (encU_one s)
    have hrow : Hid (∀ j u, (s.flatMap encU)[j]? = some u → w.cell? (a.add j) = some u) := Lib.hid (rowFlat encU_len (by decide) HL.out a rfl)
    have e0 : Hid ((w.alloc (.cells #[] 91)).ownsRow w.heap.size 91 2 (.slice (some ⟨w.heap.size, 0, none⟩) 0 0) 0 []) :=
      ⟨rfl, .inr ⟨w.heap.size, 0, #[], rfl, Nat.le_refl _, blk_new rfl, Nat.le_refl _, by simp, rfl, rfl⟩⟩
    go_enter Tryd.func112, Tryd.ntmps112
    go_wp2_with (at_builtin; go_must (refine wpList_append_own _ rfl (.tmp 5) (.tmp 6) 59 rfl w.heap.size 91 inf0 _ 2 16 Tryd.underlying59 hi jz0 jz1 jz2 rfl (by decide) _ 0 [] rfl e0.out a s.length c (s.flatMap encU) rfl HN.out (fun j u h => cell_alloc (hrow.out j u h)) H1.out (by unfold maxLen; omega) (by omega) (by simp) ?_); intro v' w9 hown9 hgrow9 _)
    go_ret
    refine ⟨⟨_, rfl, ?_⟩, ?_⟩
    · unfold Own
      simpa using hown9
    · exact (Below.alloc (Below.refl _ _) (Nat.le_refl _) _).grown hgrow9 (by simp) (fun k e => by cases e; exact Nat.le_refl _)

set_option maxHeartbeats 1000000 in
theorem cmpS_any (x y : VS) (W : World) : Calls Tryd.prog 114 #[.agg (encV x).toArray, .agg (encV y).toArray] W fun e w' => e = .returned (.int .i64 (cmpV x y)) ∧ ∃ q os', w' = Sort.grow (W.drewN q) os' := by
  obtain ⟨⟨f1, t1, u1⟩, h1, h2, h3⟩ := x
  obtain ⟨⟨f2, t2, u2⟩, k1, k2, k3⟩ := y
  have e : IntKind.i64.wrap (f1 - f2) = f1 - f2 := by rw [IntKind.wrap_i64]; dsimp only [MD] at *; omega
  show Calls Tryd.prog 114 #[.agg #[.int .i64 f1, .int .i64 t1], .agg #[.int .i64 f2, .int .i64 t2]] W fun e w' => e = .returned (.int .i64 (f1 - f2)) ∧ ∃ q os', w' = Sort.grow (W.drewN q) os'
  clear h1 h2 h3 k1 k2 k3
  go_enter Tryd.func114, Tryd.ntmps114
  go_wp2_with fail
  go_ret
  exact ⟨by simp, 0, _, by rw [Sort.alloc_eq_grow, Sort.alloc_eq_grow, Sort.grow_grow]; rfl⟩

theorem aggSp : ∀ w, (isAgg 91).run Tryd.prog w = .ok true w := Tryd.isAgg91
theorem sizeSp : ∀ w, (Go.sizeOf 91).run Tryd.prog w = .ok 2 w := Tryd.sizeOf91

theorem sortS_any (l : List (Pc Unit)) (A : Option Addr) (c base : Nat) (w : World) (hown : Own encU 2 91 base w (.slice A l.length c) l) (hm : l.length ≤ 1000000) (hv : ∀ p ∈ l, ValidS MD p) (hb : base ≤ w.heap.size) :
    Calls Tryd.prog 113 #[.slice A l.length c, .func (.func 114) #[] #[]] w fun e w' => (e = .returned (.tuple #[]) ∧ ∃ rs, RowAt encU 2 w' w'.heap.size A rs ∧ rs.Perm l ∧ rs.Pairwise (fun a b => a.f ≤ b.f)) ∧ Below base w w' := by
  by_cases h0 : l = []
  · subst h0
    refine (Tryd.slices_SortFunc_none_f113 (α := VS) A c _ w).mono ?_
    rintro e w' ⟨rfl, rfl⟩
    exact ⟨⟨rfl, [], RowAt.nil, List.Perm.refl _, List.Pairwise.nil⟩, Below.refl _ _⟩
  · obtain ⟨g, c', e, hg, hc, hrow, hf⟩ := own_cells (fun x _ => encU_len x) h0 hown
    cases e
    have hlt : g < w.heap.size := (hown.lt g rfl).2
    have eg : ∀ args w, (callFunc 114 args).run Tryd.prog w = .ok (.enter 114 args) w := enters_of Tryd.func114 (by kernel_rfl) rfl
    have hs := arrV_size hv
    have hH : Sort.HoldsK encV 2 w g 0 (arrV l hv) := holds_rowV (by rw [arrV_list]; exact hrow) hf
    have hcon := Tryd.slices_SortFunc_f113 2 aggSp sizeSp encV (fun x => encU_len x.1) (fun x v hv => by simp [encV, encU] at hv; rcases hv with rfl | rfl <;> rfl) cmpV swoV 114 #[] g 0 c (arrV l hv) w eg (fun _ _ _ _ x y => cmpS_any x y _) hH hlt (by rw [hs]; omega)
    rw [hs] at hcon
    refine hcon.mono ?_
    rintro e w' ⟨rfl, d', n, os, hp, hso, rfl⟩
    have hp' : Sort.PermIn 0 (arrV l hv).size (arrV l hv) d' := by rw [hs]; exact hp
    have hso' : Sort.SortedIn (ltOf cmpV) 0 (arrV l hv).size d' := by rw [hs]; exact hso
    have hz : d'.size = (arrV l hv).size := hp'.1
    have hgr := grown_sortedV (w := w) (g := g) (n := n) (os := os) d'
    refine ⟨⟨rfl, _, row_holdsV (Nat.lt_of_lt_of_le hlt hgr.size) (holdsK_sortWorldK_c encV 2 w g 0 (arrV l hv) d' n os hH hlt hz), ?_, pairs_sortedV hz hso'⟩, Below.grown (Below.refl _ _) hgr hb (fun k e => by cases e; exact hg)⟩
    have := perm_sortedV hp'
    rwa [arrV_list] at this

set_option maxRecDepth 10000 in
set_option maxHeartbeats 4000000 in
theorem joinedS_any (l : List (Pc Unit)) (A : Option Addr) (c : Nat) (w : World) (hl : RowAt encU 2 w w.heap.size A l) (hm : l.length ≤ 1000000) (hv : ∀ p ∈ l, ValidS MD p) :
    Calls Tryd.prog 75 #[.slice A l.length c] w fun e w' => (∃ A' c' r, e = .returned (.slice A' r.length c') ∧ RowAt encU 2 w' w'.heap.size A' r ∧ (A' = none → c' = 0) ∧ (∀ a, A' = some a → w.heap.size ≤ a.block) ∧ SetOf MD l r) ∧ Below w.heap.size w w' := by
  obtain ⟨inf0, hi, jz0, jz1, jz2⟩ := info_parts infoSp
  have HL := Lib.hid hl
  have HV := Lib.hid hv
  clear hl hv
  go_enter Tryd.func75, Tryd.ntmps75
  go_wp2_with fail
  refine (cloneS_any l A c _ HL.out hm).mono ?_
  rintro e w1 ⟨⟨v, rfl, hown⟩, hb1⟩
  obtain ⟨A1, c1, rfl, _, _, _⟩ := Own.rows (fun x _ => encU_len x) hown
  have HO := Lib.hid hown
  have z1 := hb1.size
  clear hown
  go_wp2_with fail
  refine (sortS_any l A1 c1 w.heap.size _ HO.out hm HV.out z1).mono ?_
  rintro e w2 ⟨⟨rfl, rs, hrow, hperm, hpair⟩, hb2⟩
  have hw2 : Below w.heap.size w w2 := hb1.trans hb2
  have hlen : rs.length = l.length := hperm.length_eq
  have HS := Lib.hid (merged_set hperm hpair HV.out)
  have HR := Lib.hid hrow
  have HN := Lib.hid hlen
  have z2 := hw2.size
  rw [← hlen] at hm ⊢
  clear hrow hperm hpair hlen HO hb1 hb2
  go_wp2_with fail
  go_loopw [3, 13] (fun v i wr => ∃ (k : Nat) (out : List (Pc Unit)), k ≤ rs.length ∧ out.length ≤ k ∧ i = .int .i64 k ∧ Own encU 2 91 w2.heap.size wr v out ∧
      Hid ((k = 0 ∧ out = []) ∨ ∃ pre q, out = pre ++ [q] ∧ pre ++ mg q (rs.drop k) = mergedL rs) ∧ Below w2.heap.size w2 wr) (fun _ i _ => rs.length - (intOf i).toNat)
  case atStart => exact ⟨0, [], Nat.zero_le _, Nat.le_refl _, rfl, Own.nil, Lib.hid (.inl ⟨rfl, rfl⟩), Below.refl _ _⟩
  case round =>
    obtain ⟨k, out, hk, ho, rfl, hown, hJ, hw0⟩ := hrel
    have z0 := hw0.size
    by_cases hlt : k < rs.length
    · obtain ⟨p, hp⟩ : ∃ p, rs[k]? = some p := ⟨rs[k], List.getElem?_eq_getElem hlt⟩
      obtain ⟨g, off, rfl, hg, k0, k1⟩ := cells2 (HR.out.below hw0 (Nat.le_refl _)) hp
      have hlt2 : (k : Int) < (rs.length : Int) := by omega
      have hdr := Lib.hid (drop_cons hp)
      clear hp
      rcases hJ.out with ⟨hk0, rfl⟩ | ⟨pre, q, rfl, hj⟩
      · obtain ⟨A2, c2, rfl, _, _, _⟩ := Own.rows (fun x _ => encU_len x) hown
        have HO := Lib.hid hown
        have HJ : Hid ([] ++ mg p (rs.drop (k + 1)) = mergedL rs) := by
          show _ = _
          have h := hdr.out
          rw [hk0, List.drop_zero] at h
          rw [hk0, List.nil_append]
          conv => rhs; rw [h]
          rfl
        clear hown hJ hk0
        go_wp2_with fail
        go_quiet (fail)
        go_wp2_with (at_builtin; go_must (refine wpList_append_own _ rfl (.tmp 46) (.tmp 48) 59 rfl w2.heap.size 91 inf0 _ 2 16 Tryd.underlying59 hi jz0 jz1 jz2 rfl (by decide) _ 0 _ rfl (own_below HO.out (by (repeat' (first | with_reducible exact Below.refl _ _ | with_reducible assumption | with_reducible refine Below.drew ?_ | with_reducible refine below_drewN ?_ _ | with_reducible refine Below.setCell ?_ ?_ _ | with_reducible refine Below.alloc ?_ ?_ _ | omega | (simp; done) | (simp; omega))))) ⟨wr.heap.size + 1, 0, none⟩ 1 1 [.int .i64 p.f, .int .i64 p.t] rfl rfl (World.news_of_block (cs := #[.int .i64 p.f, .int .i64 p.t]) (blk_new (by simp))) (by simp [Value.oneCell']) (by unfold maxLen; omega) (by omega) (by simp; omega) ?_); intro v' w9 hown9 hgrow9 _)
        go_roundw
        case rel =>
          refine ⟨k + 1, [] ++ [p], by omega, (by simp only [List.length_append, List.length_cons, List.length_nil] at ho ⊢; omega), by go_num, ?_, Lib.hid (.inr ⟨[], p, rfl, HJ.out⟩), ?_⟩
          · exact Own.snoc hown9 (by simp) (by simp [encU])
          · exact Below.grown (by (repeat' (first | with_reducible exact Below.refl _ _ | with_reducible assumption | with_reducible refine Below.drew ?_ | with_reducible refine below_drewN ?_ _ | with_reducible refine Below.setCell ?_ ?_ _ | with_reducible refine Below.alloc ?_ ?_ _ | omega | (simp; done) | (simp; omega)))) hgrow9 (by simp; omega) (fun g hg => by have := (HO.out.lt g hg).1; omega)
        case measure => simp [intOf]; omega
      · obtain ⟨g2, c2, rfl, hg2, hc2, hrow2, hfz⟩ := own_cells (fun x _ => encU_len x) (by simp) hown
        obtain ⟨m, hm2⟩ : ∃ m, pre.length = m := ⟨_, rfl⟩
        have hlen : (pre ++ [q]).length = m + 1 := by simp [hm2]
        have hq : (pre ++ [q])[m]? = some q := by rw [← hm2]; simp
        obtain ⟨g3, off3, e3, hg3, j0, j1⟩ := cells2 hrow2 hq
        cases e3
        have HO : Hid (wr.ownsRow w2.heap.size 91 2 (.slice (some ⟨g2, 0, none⟩) (m + 1) c2) (m + 1) ((pre ++ [q]).flatMap encU)) := by
          have h := hown
          unfold Own at h
          rw [hlen] at h
          exact h
        have HPL := Lib.hid hm2
        have ho2 : m + 1 ≤ k := by rw [← hlen]; exact ho
        rw [hlen]
        rw [Nat.zero_add] at j0 j1
        clear hown hJ hm2 hlen hq hrow2
        by_cases hT : p.f ≤ q.t
        · have HJ : Hid (pre ++ mg ⟨q.f, max q.t p.t, ()⟩ (rs.drop (k + 1)) = mergedL rs) := by show _ = _; rw [← hj, hdr.out, mg_join hT]
          have e1 : decide (p.f ≤ q.t) = true := by simp [hT]
          clear hj hT
          go_wp2_with fail
          go_quiet (fail)
          go_wp2_with fail
          go_region
          go_wp2_with fail
          go_roundw
          case rel =>
            refine ⟨k + 1, pre ++ [⟨q.f, max q.t p.t, ()⟩], by omega, (by simp only [List.length_append, List.length_cons, List.length_nil] at ho ⊢; omega), by go_num, ?_, Lib.hid (.inr ⟨pre, _, rfl, HJ.out⟩), ?_⟩
            · have h := own_set (i := m * 2 + 1) (own_below HO.out (w' := (wr.alloc (.cells #[.int .i64 p.f, .int .i64 p.t] 91)).drewN (nq + 1)) (by (repeat' (first | with_reducible exact Below.refl _ _ | with_reducible assumption | with_reducible refine Below.drew ?_ | with_reducible refine below_drewN ?_ _ | with_reducible refine Below.setCell ?_ ?_ _ | with_reducible refine Below.alloc ?_ ?_ _ | omega | (simp; done) | (simp; omega))))) (by omega) (.int .i64 (max q.t p.t))
              have e := flat_set_last encU_len pre q ⟨q.f, max q.t p.t, ()⟩ 1 (.int .i64 (max q.t p.t)) rfl (by decide)
              rw [HPL.out] at e
              rw [e] at h
              unfold Own
              rw [show (pre ++ [(⟨q.f, max q.t p.t, ()⟩ : Pc Unit)]).length = m + 1 by simp [HPL.out]]
              exact h
            · (repeat' (first | with_reducible exact Below.refl _ _ | with_reducible assumption | with_reducible refine Below.drew ?_ | with_reducible refine below_drewN ?_ _ | with_reducible refine Below.setCell ?_ ?_ _ | with_reducible refine Below.alloc ?_ ?_ _ | omega | (simp; done) | (simp; omega)))
          case measure => simp [intOf]; omega
        · have HJ : Hid ((pre ++ [q]) ++ mg p (rs.drop (k + 1)) = mergedL rs) := by show _ = _; rw [← hj, hdr.out, mg_keep hT]; simp
          have e1 : decide (p.f ≤ q.t) = false := by simp [hT]
          clear hj hT
          go_wp2_with fail
          go_quiet (fail)
          go_wp2_with (at_builtin; go_must (refine wpList_append_own _ rfl (.tmp 46) (.tmp 48) 59 rfl w2.heap.size 91 inf0 _ 2 16 Tryd.underlying59 hi jz0 jz1 jz2 rfl (by decide) _ (m + 1) _ rfl (own_below HO.out (by (repeat' (first | with_reducible exact Below.refl _ _ | with_reducible assumption | with_reducible refine Below.drew ?_ | with_reducible refine below_drewN ?_ _ | with_reducible refine Below.setCell ?_ ?_ _ | with_reducible refine Below.alloc ?_ ?_ _ | omega | (simp; done) | (simp; omega))))) ⟨wr.heap.size + 1, 0, none⟩ 1 1 [.int .i64 p.f, .int .i64 p.t] rfl rfl (World.news_of_block (cs := #[.int .i64 p.f, .int .i64 p.t]) (blk_new (by simp))) (by simp [Value.oneCell']) (by unfold maxLen; omega) (by omega) (by simp; omega) ?_); intro v' w9 hown9 hgrow9 _)
          go_roundw
          case rel =>
            refine ⟨k + 1, (pre ++ [q]) ++ [p], by omega, (by simp only [List.length_append, List.length_cons, List.length_nil] at ho ⊢; omega), by go_num, ?_, Lib.hid (.inr ⟨pre ++ [q], p, rfl, HJ.out⟩), ?_⟩
            · exact Own.snoc hown9 (by simp [HPL.out]) (by simp [encU])
            · exact Below.grown (by (repeat' (first | with_reducible exact Below.refl _ _ | with_reducible assumption | with_reducible refine Below.drew ?_ | with_reducible refine below_drewN ?_ _ | with_reducible refine Below.setCell ?_ ?_ _ | with_reducible refine Below.alloc ?_ ?_ _ | omega | (simp; done) | (simp; omega)))) hgrow9 (by simp; omega) (fun g hg => by have := (HO.out.lt g hg).1; omega)
          case measure => simp [intOf]; omega
    · obtain rfl : k = rs.length := by omega
      have HE : Hid (out = mergedL rs) := by
        show _ = _
        rcases hJ.out with ⟨h0, rfl⟩ | ⟨pre, q, rfl, hj⟩
        · rw [List.eq_nil_of_length_eq_zero h0]; rfl
        · rw [← hj, List.drop_length]; rfl
      obtain ⟨A2, c2, rfl, hr2, hA2, hA3⟩ := own_line (fun x _ => encU_len x) hown
      have HR2 := Lib.hid hr2
      clear hown hJ hr2
      go_wp2_with fail
      go_ret
      exact ⟨⟨A2, c2, out, rfl, HR2.out, hA2, fun a ha => by have := hA3 a ha; omega, by rw [HE.out]; exact HS.out⟩, hw2.trans (hw0.mono z2)⟩

end Go.Proofs.YtmodofbelpaelaaDoor
