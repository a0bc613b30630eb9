/- The document's norm of a timeline: walk. -/
import Derived.Test.YtmodofbelpaelaaDoorLineX
import Derived.Test.YtmodofbelpaelaaDoorNormP
namespace Go.Proofs.YtmodofbelpaelaaDoor
open Go.RowKit

theorem joinP_none {γ : Type} {g : Int → Option γ} {ds : List Int} {k : Nat} {a b : Int} (ha : ds[k]? = some a) (hb : ds[k + 1]? = some b) (hg : g a = none) : joinP g (ds.drop k) = joinP g (ds.drop (k + 1)) := by
  rw [joinP_step ha hb, hg]; rfl
theorem joinP_some {γ : Type} {g : Int → Option γ} {ds : List Int} {k : Nat} {a b : Int} {v : γ} (ha : ds[k]? = some a) (hb : ds[k + 1]? = some b) (hg : g a = some v) : joinP g (ds.drop k) = ⟨a, b, v⟩ :: joinP g (ds.drop (k + 1)) := by
  rw [joinP_step ha hb, hg]; rfl

set_option maxRecDepth 10000 in
set_option maxHeartbeats 8000000 in
theorem norm6_any (l : List (Pc Int)) (A : Option Addr) (c : Nat) (w : World) (hl : RowAt encP 3 w w.heap.size A l) (hm : l.length ≤ 200000) (hv : ∀ p ∈ l, ValidP MD p) :
    Calls Tryd.prog 77 #[.slice A l.length c] w fun e w' => (∃ A' c' r, e = .returned (.slice A' r.length c') ∧ RowAt encP 3 w' w'.heap.size A' r ∧ Made MD l r) ∧ Below w.heap.size w w' := by
  obtain ⟨inf0, hi, jz0, jz1, jz2⟩ := info_parts infoR6
  have HL := Lib.hid hl
  have HAT := Lib.hid (fun (n : Int) (w' : World) (h : Below w.heap.size w w') => refAt6_any l A c n w' ((hl.below h (Nat.le_refl _)).more h.size) (by omega))
  obtain ⟨ds, hds⟩ : ∃ ds, cutsR l [] = ds := ⟨_, rfl⟩
  obtain ⟨g0, hg0⟩ : ∃ g0 : Int → Option Int, (fun n => valL l.reverse n) = g0 := ⟨_, rfl⟩
  have hmade : Made MD l (joinedL (joinP g0 ds)) := by
    rw [← hg0, ← hds]
    exact norm_spec hv (cutsR_rise List.Pairwise.nil) (fun x => by rw [cutsR_mem]; simp)
  have HMD := Lib.hid hmade
  have hdl : ds.length ≤ 400000 := by have h := cutsR_len l []; rw [hds, List.length_nil] at h; omega
  have HDS := Lib.hid hds
  have HG := Lib.hid hg0
  clear hl hv hds hg0 hmade
  go_enter Tryd.func77, Tryd.ntmps77
  go_wp2_with fail
  refine (cutsR_any l [] A c (.slice none 0 0) w.heap.size w (Nat.le_refl _) HL.out Own.nil hm (by simp)).mono ?_
  rintro e w1 ⟨⟨v1, rfl, hown1⟩, hb1⟩
  rw [HDS.out] at hown1
  obtain ⟨A1, c1, rfl, hr1, _, _⟩ := own_line (fun x _ => encI_len x) hown1
  have hoff : ∀ a, A1 = some a → a.off = 0 := fun a ha => by
    rcases hown1.2 with ⟨h, _⟩ | ⟨g, cp, cur, h, _⟩
    · injection h with h1; rw [ha] at h1; cases h1
    · injection h with h1; rw [ha] at h1; cases h1; rfl
  have hw1 : Below w.heap.size w w1 := stepH (by (repeat' (first | with_reducible exact Below.refl _ _ | with_reducible assumption | with_reducible refine Below.drew ?_ | with_reducible refine below_drewN ?_ _ | with_reducible refine Below.setCell ?_ ?_ _ | with_reducible refine Below.alloc ?_ ?_ _ | omega | (simp; done) | (simp; omega)))) hb1
  have z1 := hw1.size
  have HD := Lib.hid hr1
  clear hb1 hown1 hr1
  go_wp2_with fail
  go_loopw [4, 5] (fun u i wr => ∃ (k : Nat) (out : List (Pc Int)), out.length ≤ k ∧ (k = 0 ∨ k < ds.length) ∧ i = .int .i64 k ∧ Own encP 3 86 w1.heap.size wr u out ∧ Hid ((out = [] ∧ joinedL (joinP g0 (ds.drop k)) = joinedL (joinP g0 ds)) ∨ ∃ pre q, out = pre ++ [q] ∧ pre ++ jc q (joinP g0 (ds.drop k)) = joinedL (joinP g0 ds)) ∧ Below w1.heap.size w1 wr) (fun _ i _ => ds.length - (intOf i).toNat)
  case atStart => exact ⟨0, [], Nat.le_refl _, .inl rfl, rfl, Own.nil, Lib.hid (.inl ⟨rfl, by rw [List.drop_zero]⟩), Below.refl _ _⟩
  case round =>
    obtain ⟨k, out, ho, hk, rfl, hown, hJ, hwr⟩ := hrel
    have zr := hwr.size
    have hw0 : Below w.heap.size w wr := stepH hw1 hwr
    have HO := Lib.hid hown
    by_cases hlt : k + 1 < ds.length
    · obtain ⟨a, ha⟩ : ∃ a, ds[k]? = some a := ⟨ds[k], List.getElem?_eq_getElem (by omega)⟩
      obtain ⟨b, hb⟩ : ∃ b, ds[k + 1]? = some b := ⟨ds[k + 1], List.getElem?_eq_getElem hlt⟩
      obtain ⟨gd, od, e0, hgl, hca0⟩ := HD.out k a ha
      subst e0
      obtain rfl : od = 0 := hoff _ rfl
      obtain ⟨_, _, e1, _, hca⟩ := (HD.out.below hwr (Nat.le_refl _)) k a ha
      cases e1
      obtain ⟨_, _, e1, _, hcb⟩ := (HD.out.below hwr (Nat.le_refl _)) (k + 1) b hb
      cases e1
      have k0 : wr.cell? ⟨gd, k, none⟩ = some (.int .i64 a) := by have := hca 0 _ rfl; simpa using this
      have k1 : wr.cell? ⟨gd, k + 1, none⟩ = some (.int .i64 b) := by have := hcb 0 _ rfl; simpa using this
      have hlt2 : (k : Int) + 1 < (ds.length : Int) := by omega
      have i1 : (k : Int) < (ds.length : Int) := by omega
      have i4 : ((k : Int) + 1).toNat = k + 1 := by omega
      have i6 : ((k : Int)).toNat = k := by omega
      have i7 : IntKind.i64.wrap ((k : Int) + 1) = (k : Int) + 1 := by rw [IntKind.wrap_i64]; omega
      have HA := Lib.hid ha
      have HB := Lib.hid hb
      obtain ⟨o, ho9⟩ : ∃ o, valL l.reverse a = o := ⟨_, rfl⟩
      have HV := Lib.hid ho9
      have HGA : Hid (g0 a = o) := by show _ = _; rw [← HG.out]; exact ho9
      clear hca hca0 hcb ha hb hown ho9
      cases o with
      | none =>
        go_wp2_with fail
        refine (HAT.out a _ (by (repeat' (first | with_reducible exact Below.refl _ _ | with_reducible assumption | with_reducible refine Below.drew ?_ | with_reducible refine below_drewN ?_ _ | with_reducible refine Below.setCell ?_ ?_ _ | with_reducible refine Below.alloc ?_ ?_ _ | omega | (simp; done) | (simp; omega))))).mono ?_
        rintro e w2 ⟨rfl, hb2⟩
        rw [HV.out]
        have e1 : vB6 none = false := rfl
        have hJ2 := Lib.hid (joinP_none HA.out HB.out HGA.out)
        go_wp2_with fail
        go_roundw
        case rel => exact ⟨k + 1, out, by omega, .inr hlt, by go_num, own_below HO.out hb2, by rw [← hJ2.out]; exact hJ, stepH hwr hb2⟩
        case measure => simp [intOf]; omega
      | some v =>
        have hJ2 := joinP_some HA.out HB.out HGA.out
        go_wp2_with fail
        refine (HAT.out a _ (by (repeat' (first | with_reducible exact Below.refl _ _ | with_reducible assumption | with_reducible refine Below.drew ?_ | with_reducible refine below_drewN ?_ _ | with_reducible refine Below.setCell ?_ ?_ _ | with_reducible refine Below.alloc ?_ ?_ _ | omega | (simp; done) | (simp; omega))))).mono ?_
        rintro e w2 ⟨rfl, hb2⟩
        rw [HV.out]
        have e1 : vB6 (some v) = true := rfl
        have e2 : vN (some v) = v := rfl
        rw [e1, e2]
        have hr2 : Below w1.heap.size w1 w2 := stepH hwr hb2
        have hw2 : Below w.heap.size w w2 := stepH hw0 hb2
        have z2 := hr2.size
        have hown2 := own_below HO.out hb2
        replace k0 := cellOf hb2 k0
        replace k1 := cellOf hb2 k1
        clear hb2 e1 e2
        rw [hJ2] at hJ
        clear hJ2
        rcases hJ.out with ⟨rfl, hj⟩ | ⟨pre, q, rfl, hj⟩
        · obtain ⟨A3, c3, rfl, _, _, _⟩ := own_line (fun x _ => encP_len x) hown2
          have HO2 := Lib.hid hown2
          have HJ : Hid ([] ++ jc ⟨a, b, v⟩ (joinP g0 (ds.drop (k + 1))) = joinedL (joinP g0 ds)) := hj
          have HPL : Hid (([] : List (Pc Int)).length = 0) := rfl
          clear hJ hj hown2
          go_wp2_with fail
          go_quiet (fail)
          go_wp2_with fail
          go_region_held_law (fun w' => w'.cell? ⟨gd, k, none⟩ = some (.int .i64 a) ∧ w'.cell? ⟨gd, k + 1, none⟩ = some (.int .i64 b)) (first | with_reducible exact ⟨k0, k1⟩ | go_keep | exact ⟨(World.grownBy.cell_far hgrow9 ⟨gd, k, none⟩ (by simp; omega) (fun e => by have h9 := (HO2.out.lt _ e.symm).1; dsimp only at h9; omega)).trans (cell_drew (cell_alloc k0)), (World.grownBy.cell_far hgrow9 ⟨gd, k + 1, none⟩ (by simp; omega) (fun e => by have h9 := (HO2.out.lt _ e.symm).1; dsimp only at h9; omega)).trans (cell_drew (cell_alloc k1))⟩)
            ((refine step_append_any (by rfl) (.tmp 66) (.tmp 78) 71 (by rfl) w1.heap.size 86 inf0 _ 3 24 Tryd.underlying71 hi jz0 jz1 jz2 rfl (by decide) _ 0 _ (by rfl) ((HO2.out.alloc _).drew) (some ⟨w2.heap.size, 0, none⟩) 1 1 [.int .i64 a, .int .i64 b, .int .i64 v] (by rfl) rfl (fun ad ha j u hj => by cases ha; exact cell_drew (World.news_of_block (cs := #[.int .i64 a, .int .i64 b, .int .i64 v]) (blk_new rfl) j u hj)) (fun h => by cases h) (by simp [Value.oneCell']) (by unfold maxLen; omega) (by omega) (by simp; omega) ?_; intro v' w9 hown9 hgrow9))
          go_wp2_with fail
          go_roundw
          case rel =>
            refine ⟨k + 1, [] ++ [⟨a, b, v⟩], (by simp only [List.length_append, List.length_cons, List.length_nil] at ho ⊢; omega), .inr hlt, by go_num, Own.snoc hown9 (by simp [HPL.out]) (by simp [encP]), Lib.hid (.inr ⟨[], _, rfl, HJ.out⟩), Below.grown (by (repeat' (first | with_reducible exact Below.refl _ _ | with_reducible assumption | with_reducible refine Below.drew ?_ | with_reducible refine below_drewN ?_ _ | with_reducible refine Below.setCell ?_ ?_ _ | with_reducible refine Below.alloc ?_ ?_ _ | omega | (simp; done) | (simp; omega)))) hgrow9 (by simp; omega) (fun g hg => (HO2.out.lt g hg).1)⟩
          case measure => simp [intOf]; omega
        · obtain ⟨g2, c2, rfl, hg2, hc2, hrow2, hfz⟩ := own_cells (fun x _ => encP_len x) (by simp) hown2
          obtain ⟨m, hm2⟩ : ∃ m, pre.length = m := ⟨_, rfl⟩
          have hlen : (pre ++ [q]).length = m + 1 := by simp [hm2]
          have hq : (pre ++ [q])[m]? = some q := by rw [← hm2]; simp
          obtain ⟨g3, off3, e3, hg3, j0, j1, j2⟩ := cells3 hrow2 hq
          cases e3
          have HO2 : Hid (w2.ownsRow w1.heap.size 86 3 (.slice (some ⟨g2, 0, none⟩) (m + 1) c2) (m + 1) ((pre ++ [q]).flatMap encP)) := by
            have h := hown2
            unfold Own at h
            rw [hlen] at h
            exact h
          have HPL := Lib.hid hm2
          have ho2 : m + 1 ≤ k := by rw [← hlen]; exact ho
          rw [hlen]
          rw [Nat.zero_add] at j0 j1 j2
          have f1 : (m : Int) + 1 - 1 = (m : Int) := by omega
          clear hown2 hJ hm2 hlen hq hrow2 HO
          by_cases hT : q.t = a
          · by_cases hV : q.v = v
            · have HJ : Hid (pre ++ jc ⟨q.f, b, q.v⟩ (joinP g0 (ds.drop (k + 1))) = joinedL (joinP g0 ds)) := by show _ = _; rw [← hj, jc_join ⟨hT, hV⟩]
              have e1 : (q.t == a) = true := by simp [hT]
              have e2 : (q.v == v) = true := by simp [hV]
              clear hj hT hV
              go_wp2_with fail
              go_quiet (fail)
              go_wp2_with fail
              go_roundw
              case rel =>
                refine ⟨k + 1, pre ++ [⟨q.f, b, q.v⟩], (by simp only [List.length_append, List.length_cons, List.length_nil] at ho ⊢; omega), .inr hlt, by go_num, ?_, Lib.hid (.inr ⟨pre, _, rfl, HJ.out⟩), ?_⟩
                · have h := own_set (i := m * 3 + 1) (own_below HO2.out (w' := w2.drewN nq) (by (repeat' (first | with_reducible exact Below.refl _ _ | with_reducible assumption | with_reducible refine Below.drew ?_ | with_reducible refine below_drewN ?_ _ | with_reducible refine Below.setCell ?_ ?_ _ | with_reducible refine Below.alloc ?_ ?_ _ | omega | (simp; done) | (simp; omega))))) (by omega) (.int .i64 b)
                  have e := flat_set_last encP_len pre q ⟨q.f, b, q.v⟩ 1 (.int .i64 b) rfl (by decide)
                  rw [HPL.out] at e
                  rw [e] at h
                  unfold Own
                  rw [show (pre ++ [(⟨q.f, b, q.v⟩ : Pc Int)]).length = m + 1 by simp [HPL.out]]
                  exact h
                · (repeat' (first | with_reducible exact Below.refl _ _ | with_reducible assumption | with_reducible refine Below.drew ?_ | with_reducible refine below_drewN ?_ _ | with_reducible refine Below.setCell ?_ ?_ _ | with_reducible refine Below.alloc ?_ ?_ _ | omega | (simp; done) | (simp; omega)))
              case measure => simp [intOf]; omega
            · have HJ : Hid ((pre ++ [q]) ++ jc ⟨a, b, v⟩ (joinP g0 (ds.drop (k + 1))) = joinedL (joinP g0 ds)) := by show _ = _; rw [← hj, jc_keep (fun h => hV h.2)]; simp
              have e1 : (q.t == a) = true := by simp [hT]
              have e2 : (q.v == v) = false := by simp [hV]
              clear hj hT hV
              go_wp2_with fail
              go_quiet (fail)
              go_wp2_with fail
              go_region_held_law (fun w' => w'.cell? ⟨gd, k, none⟩ = some (.int .i64 a) ∧ w'.cell? ⟨gd, k + 1, none⟩ = some (.int .i64 b)) (first | with_reducible exact ⟨k0, k1⟩ | go_keep | exact ⟨(World.grownBy.cell_far hgrow9 ⟨gd, k, none⟩ (by simp; omega) (fun e => by have h9 := (HO2.out.lt _ e.symm).1; dsimp only at h9; omega)).trans (cell_drew (cell_alloc k0)), (World.grownBy.cell_far hgrow9 ⟨gd, k + 1, none⟩ (by simp; omega) (fun e => by have h9 := (HO2.out.lt _ e.symm).1; dsimp only at h9; omega)).trans (cell_drew (cell_alloc k1))⟩)
                ((refine step_append_any (by rfl) (.tmp 66) (.tmp 78) 71 (by rfl) w1.heap.size 86 inf0 _ 3 24 Tryd.underlying71 hi jz0 jz1 jz2 rfl (by decide) _ (m + 1) _ (by rfl) ((HO2.out.alloc _).drew) (some ⟨w2.heap.size, 0, none⟩) 1 1 [.int .i64 a, .int .i64 b, .int .i64 v] (by rfl) rfl (fun ad ha j u hj => by cases ha; exact cell_drew (World.news_of_block (cs := #[.int .i64 a, .int .i64 b, .int .i64 v]) (blk_new rfl) j u hj)) (fun h => by cases h) (by simp [Value.oneCell']) (by unfold maxLen; omega) (by omega) (by simp; omega) ?_; intro v' w9 hown9 hgrow9))
              go_wp2_with fail
              go_roundw
              case rel =>
                refine ⟨k + 1, (pre ++ [q]) ++ [⟨a, b, v⟩], (by simp only [List.length_append, List.length_cons, List.length_nil] at ho ⊢; omega), .inr hlt, by go_num, Own.snoc hown9 (by simp [HPL.out]) (by simp [encP]), Lib.hid (.inr ⟨pre ++ [q], _, rfl, HJ.out⟩), Below.grown (by (repeat' (first | with_reducible exact Below.refl _ _ | with_reducible assumption | with_reducible refine Below.drew ?_ | with_reducible refine below_drewN ?_ _ | with_reducible refine Below.setCell ?_ ?_ _ | with_reducible refine Below.alloc ?_ ?_ _ | omega | (simp; done) | (simp; omega)))) hgrow9 (by simp; omega) (fun g hg => (HO2.out.lt g hg).1)⟩
              case measure => simp [intOf]; omega
          · have HJ : Hid ((pre ++ [q]) ++ jc ⟨a, b, v⟩ (joinP g0 (ds.drop (k + 1))) = joinedL (joinP g0 ds)) := by show _ = _; rw [← hj, jc_keep (fun h => hT h.1)]; simp
            have e1 : (q.t == a) = false := by simp [hT]
            clear hj hT
            go_wp2_with fail
            go_quiet (fail)
            go_wp2_with fail
            go_region_held_law (fun w' => w'.cell? ⟨gd, k, none⟩ = some (.int .i64 a) ∧ w'.cell? ⟨gd, k + 1, none⟩ = some (.int .i64 b)) (first | with_reducible exact ⟨k0, k1⟩ | go_keep | exact ⟨(World.grownBy.cell_far hgrow9 ⟨gd, k, none⟩ (by simp; omega) (fun e => by have h9 := (HO2.out.lt _ e.symm).1; dsimp only at h9; omega)).trans (cell_drew (cell_alloc k0)), (World.grownBy.cell_far hgrow9 ⟨gd, k + 1, none⟩ (by simp; omega) (fun e => by have h9 := (HO2.out.lt _ e.symm).1; dsimp only at h9; omega)).trans (cell_drew (cell_alloc k1))⟩)
              ((refine step_append_any (by rfl) (.tmp 66) (.tmp 78) 71 (by rfl) w1.heap.size 86 inf0 _ 3 24 Tryd.underlying71 hi jz0 jz1 jz2 rfl (by decide) _ (m + 1) _ (by rfl) ((HO2.out.alloc _).drew) (some ⟨w2.heap.size, 0, none⟩) 1 1 [.int .i64 a, .int .i64 b, .int .i64 v] (by rfl) rfl (fun ad ha j u hj => by cases ha; exact cell_drew (World.news_of_block (cs := #[.int .i64 a, .int .i64 b, .int .i64 v]) (blk_new rfl) j u hj)) (fun h => by cases h) (by simp [Value.oneCell']) (by unfold maxLen; omega) (by omega) (by simp; omega) ?_; intro v' w9 hown9 hgrow9))
            go_wp2_with fail
            go_roundw
            case rel =>
              refine ⟨k + 1, (pre ++ [q]) ++ [⟨a, b, v⟩], (by simp only [List.length_append, List.length_cons, List.length_nil] at ho ⊢; omega), .inr hlt, by go_num, Own.snoc hown9 (by simp [HPL.out]) (by simp [encP]), Lib.hid (.inr ⟨pre ++ [q], _, rfl, HJ.out⟩), Below.grown (by (repeat' (first | with_reducible exact Below.refl _ _ | with_reducible assumption | with_reducible refine Below.drew ?_ | with_reducible refine below_drewN ?_ _ | with_reducible refine Below.setCell ?_ ?_ _ | with_reducible refine Below.alloc ?_ ?_ _ | omega | (simp; done) | (simp; omega)))) hgrow9 (by simp; omega) (fun g hg => (HO2.out.lt g hg).1)⟩
            case measure => simp [intOf]; omega
    · have HE : Hid (out = joinedL (joinP g0 ds)) := by
        show _ = _
        have h : joinP g0 (ds.drop k) = [] := by
          have h : ds.drop k = [] ∨ ∃ a, ds.drop k = [a] := by
            cases hd : ds.drop k with
            | nil => exact .inl rfl
            | cons a r =>
              have hlen : (ds.drop k).length = ds.length - k := List.length_drop
              rw [hd, List.length_cons] at hlen
              obtain rfl : r = [] := List.eq_nil_of_length_eq_zero (by omega)
              exact .inr ⟨a, rfl⟩
          rcases h with h | ⟨a, h⟩ <;> (rw [h]; simp [joinP])
        rcases hJ.out with ⟨rfl, hj⟩ | ⟨pre, q, rfl, hj⟩
        · rw [← hj, h]; rfl
        · rw [← hj, h]; rfl
      obtain ⟨A2, c2, rfl, hr2, _, _⟩ := own_line (fun x _ => encP_len x) HO.out
      have hlt2 : ¬ ((k : Int) + 1 < (ds.length : Int)) := by omega
      have i7 : IntKind.i64.wrap ((k : Int) + 1) = (k : Int) + 1 := by rw [IntKind.wrap_i64]; omega
      have HR2 := Lib.hid hr2
      clear hr2 hown hJ
      go_wp2_with fail
      go_ret
      exact ⟨⟨A2, c2, out, rfl, HR2.out, by rw [HE.out]; exact HMD.out⟩, hw0⟩

end Go.Proofs.YtmodofbelpaelaaDoor
