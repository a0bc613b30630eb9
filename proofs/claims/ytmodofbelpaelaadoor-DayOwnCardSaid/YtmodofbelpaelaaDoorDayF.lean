/- Two sets of days: Or, And, Less: walks. -/
import Derived.Test.YtmodofbelpaelaaDoorDayE
import Derived.Test.YtmodofbelpaelaaDoorDayG
import Derived.Test.YtmodofbelpaelaaDoorDayYr
namespace Go.Proofs.YtmodofbelpaelaaDoor
open Go.RowKit

set_option maxRecDepth 10000 in
set_option maxHeartbeats 8000000 in
theorem or_any (l m : List (Pc Unit)) (A B : Option Addr) (c d : Nat) (w : World) (hl : RowAt encU 2 w w.heap.size A l) (hm : RowAt encU 2 w w.heap.size B m) (h1 : l.length ≤ 200000) (h2 : m.length ≤ 200000) (hA : A = none → c = 0) (hB : B = none → d = 0) (cl : Canon MD l) (cm : Canon MD m) :
    Calls Tryd.prog 46 #[.agg #[.slice A l.length c], .agg #[.slice B m.length d]] w fun e w' => (∃ A' c' r, e = .returned (.agg #[.slice A' r.length c']) ∧ RowAt encU 2 w' w'.heap.size A' r ∧ (A' = none → c' = 0) ∧ SetOf MD (l ++ m) r) ∧ Below w.heap.size w w' := by
  obtain ⟨inf0, hi, jz0, jz1, jz2⟩ := info_parts infoSp
  have HV : Hid (∀ p ∈ l ++ m, ValidS MD p) := fun p hp => (List.mem_append.1 hp).elim (cl.valid p) (cm.valid p)
  have HSP := Lib.hid (fun w' (h : Below w.heap.size w w') => spansD_any l A c w' ((hl.below h (Nat.le_refl _)).more h.size) (by omega) hA)
  have HBN : Hid (B = none → m.length = 0 ∧ d = 0) := fun h => by
    refine ⟨?_, hB h⟩
    cases m with
    | nil => rfl
    | cons p r => obtain ⟨_, _, e, _⟩ := hm 0 p rfl; rw [h] at e; cases e
  have HM := Lib.hid hm
  have HF := Lib.hid (fun (w' : World) (h : Below w.heap.size w w') => rowFlat encU_len (by decide) (hm.below h (Nat.le_refl _)))
  have HN := Lib.hid (encU_flat m)
  have H1 := Lib.hid (encU_one m)
  obtain ⟨lm, hlm⟩ : ∃ lm, l ++ m = lm := ⟨_, rfl⟩
  have HL : Hid (lm.length = l.length + m.length) := by show _ = _; rw [← hlm, List.length_append]
  have HFL : Hid (lm.flatMap encU = l.flatMap encU ++ m.flatMap encU) := by show _ = _; rw [← hlm, List.flatMap_append]
  rw [hlm] at HV ⊢
  clear hl hm hA hB cl cm hlm
  go_enter Tryd.func46, Tryd.ntmps46
  go_wp2_with fail
  have R0 : Hid ((((w.alloc (.cells #[.slice A l.length c] 67)).alloc (.cells #[.slice B m.length d] 67)).alloc (.cells #[.slice none 0 0] 67)).heap[w.heap.size + 1 + 1]? = some (.cells #[.slice none 0 0] 67 (0, 0))) := blk_new (by simp)
  have B0 : Hid ((((w.alloc (.cells #[.slice A l.length c] 67)).alloc (.cells #[.slice B m.length d] 67)).alloc (.cells #[.slice none 0 0] 67)).heap[w.heap.size + 1]? = some (.cells #[.slice B m.length d] 67 (0, 0))) := blk_old (blk_new (by simp))
  have A0 : Hid ((((w.alloc (.cells #[.slice A l.length c] 67)).alloc (.cells #[.slice B m.length d] 67)).alloc (.cells #[.slice none 0 0] 67)).heap[w.heap.size]? = some (.cells #[.slice A l.length c] 67 (0, 0))) := blk_old (blk_old (blk_new (by simp)))
  have hw0 : Below w.heap.size w (((w.alloc (.cells #[.slice A l.length c] 67)).alloc (.cells #[.slice B m.length d] 67)).alloc (.cells #[.slice none 0 0] 67)) := by (repeat' (first | with_reducible exact Below.refl _ _ | with_reducible assumption | with_reducible refine Below.drew ?_ | with_reducible refine below_drewN ?_ _ | with_reducible refine Below.setCell ?_ ?_ _ | with_reducible refine Below.alloc ?_ ?_ _ | omega | (simp; done) | (simp; omega)))
  have hz0 : (((w.alloc (.cells #[.slice A l.length c] 67)).alloc (.cells #[.slice B m.length d] 67)).alloc (.cells #[.slice none 0 0] 67)).heap.size = w.heap.size + 3 := by simp
  generalize (((w.alloc (.cells #[.slice A l.length c] 67)).alloc (.cells #[.slice B m.length d] 67)).alloc (.cells #[.slice none 0 0] 67)) = w0 at *
  have x0 : w0.cell? ⟨w.heap.size, 0, none⟩ = some (.slice A l.length c) := cellH A0 0
  have x1 : w0.cell? ⟨w.heap.size + 1, 0, none⟩ = some (.slice B m.length d) := cellH B0 0
  have hlB := lt_of_H B0
  have hlR := lt_of_H R0
  clear A0 B0
  go_region_held_law (fun w' => w'.cell? ⟨w.heap.size, 0, none⟩ = some (.slice A l.length c) ∧ w'.cell? ⟨w.heap.size + 1, 0, none⟩ = some (.slice B m.length d)) (first | with_reducible exact ⟨x0, x1⟩ | with_reducible exact ⟨cell_set x0 (by dsimp only; omega), cell_set x1 (by dsimp only; omega)⟩ | go_keep)
    (first
      | (go_at_call 40; refine (HSP.out _ (by (repeat' (first | with_reducible exact Below.refl _ _ | with_reducible assumption | with_reducible refine Below.drew ?_ | with_reducible refine below_drewN ?_ _ | with_reducible refine Below.setCell ?_ ?_ _ | with_reducible refine Below.alloc ?_ ?_ _ | omega | (simp; done) | (simp; omega))))).mono ?_; rintro e w5 ⟨v5, rfl, hown5, hb5⟩; have hw5 : Below w.heap.size w w5 := stepH (by (repeat' (first | with_reducible exact Below.refl _ _ | with_reducible assumption | with_reducible refine Below.drew ?_ | with_reducible refine below_drewN ?_ _ | with_reducible refine Below.setCell ?_ ?_ _ | with_reducible refine Below.alloc ?_ ?_ _ | omega | (simp; done) | (simp; omega)))) hb5; have z5 : w0.heap.size ≤ w5.heap.size := hb5.size; have HO5 : Hid (w5.ownsRow w0.heap.size 91 2 v5 l.length (l.flatMap encU)) := hown5; replace x0 := cellOf hb5 (by first | exact x0 | exact cell_drew x0); replace x1 := cellOf hb5 (by first | exact x1 | exact cell_drew x1); replace R0 := keepH hb5 (by first | with_reducible exact R0.out | with_reducible exact drew_old R0.out); clear hb5 hown5)
      | (refine step_append_any (by rfl) (.tmp 6) (.tmp 8) 59 (by rfl) w0.heap.size 91 inf0 _ 2 16 Tryd.underlying59 hi jz0 jz1 jz2 rfl (by decide) _ l.length _ (by rfl) HO5.out.drew B m.length d (m.flatMap encU) (by rfl) HN.out (fun ad ha j u hj => cell_drew (HF.out _ hw5 ad ha j u hj)) HBN.out H1.out (by unfold maxLen; omega) (by omega) z5 ?_; intro v' w9 hown9 hgrow9; have z9 : w0.heap.size ≤ w9.heap.size := Nat.le_trans z5 hgrow9.size; have hf9 : ∀ k, k < w0.heap.size → v5.ownBlock ≠ some k := (fun k hk e => by have h9 := (HO5.out.lt _ e).1; omega); replace x0 := (World.grownBy.cell_far hgrow9 ⟨w.heap.size, 0, none⟩ (by show w.heap.size < w5.heap.size; omega) (fun e => hf9 w.heap.size (by omega) e.symm)).trans (cell_drew x0); replace x1 := (World.grownBy.cell_far hgrow9 ⟨w.heap.size + 1, 0, none⟩ (by show w.heap.size + 1 < w5.heap.size; omega) (fun e => hf9 (w.heap.size + 1) (by omega) e.symm)).trans (cell_drew x1); replace R0 := Lib.hid ((hgrow9.block _ (by show w.heap.size + 1 + 1 < w5.heap.size; omega) (fun e => hf9 (w.heap.size + 1 + 1) (by omega) e.symm)).trans (drew_old R0.out)); have hw9 : Below w.heap.size w w9 := Below.grown (by (repeat' (first | with_reducible exact Below.refl _ _ | with_reducible assumption | with_reducible refine Below.drew ?_ | with_reducible refine below_drewN ?_ _ | with_reducible refine Below.setCell ?_ ?_ _ | with_reducible refine Below.alloc ?_ ?_ _ | omega | (simp; done) | (simp; omega)))) hgrow9 (by show w.heap.size ≤ w5.heap.size; omega) (fun k e => by have h9 := (HO5.out.lt _ e).1; omega); have hO9 : Own encU 2 91 w0.heap.size w9 v' lm := (by unfold Own; rw [HL.out, HFL.out]; exact hown9); obtain ⟨A9, c9, rfl, hr9, _, _⟩ := own_line (fun x _ => encU_len x) hO9; have HR9 := Lib.hid hr9; clear hown9 hgrow9 hO9 hr9)
      | (go_at_call 75; refine (joinedS_any lm A9 c9 _ HR9.out (by rw [HL.out]; omega) HV.out).mono ?_; rintro e w6 ⟨⟨A6, c6, r6, rfl, hr6, hA6, hB6, hset6⟩, hb6⟩; have hw6 : Below w.heap.size w w6 := stepH (by (repeat' (first | with_reducible exact Below.refl _ _ | with_reducible assumption | with_reducible refine Below.drew ?_ | with_reducible refine below_drewN ?_ _ | with_reducible refine Below.setCell ?_ ?_ _ | with_reducible refine Below.alloc ?_ ?_ _ | omega | (simp; done) | (simp; omega)))) hb6; replace x0 := cellOf hb6 (by first | exact x0 | exact cell_drew x0); replace x1 := cellOf hb6 (by first | exact x1 | exact cell_drew x1); replace R0 := keepH hb6 (by first | with_reducible exact R0.out | with_reducible exact drew_old R0.out); have cR := cellH R0; have fR := frozH R0; have HR6 := Lib.hid hr6; have HS6 := Lib.hid hset6; have hl6 := lt_of_H R0; clear hb6 hr6 hset6))
  go_wp2_with fail
  have cR2 := cellH (Lib.hid (setBox R0.out (.slice A6 r6.length c6)))
  refine bodyPost_ret (v := .agg #[.slice A6 r6.length c6]) (by simp [results, Tryd.results46, go_sem, cR2]) rfl ⟨⟨A6, c6, r6, rfl, ?_, hA6, HS6.out⟩, by (repeat' (first | with_reducible exact Below.refl _ _ | with_reducible assumption | with_reducible refine Below.drew ?_ | with_reducible refine below_drewN ?_ _ | with_reducible refine Below.setCell ?_ ?_ _ | with_reducible refine Below.alloc ?_ ?_ _ | omega | (simp; done) | (simp; omega)))⟩
  exact rowKeepL HR6.out (by simp) (fun a ha => Below.heap_setCell _ _ _ _ (by have h := hB6 a ha; dsimp only; omega))

theorem andP_step {l m : List (Pc Unit)} {k : Nat} {p : Pc Unit} (hp : l[k]? = some p) : andP (l.take (k + 1)) m = andP (l.take k) m ++ andG p m := by
  unfold andP; rw [take_snoc hp, List.flatMap_append]; simp
theorem andG_step {a : Pc Unit} {m : List (Pc Unit)} {k : Nat} {p : Pc Unit} (hp : m[k]? = some p) : andG a (m.take (k + 1)) = andG a (m.take k) ++ (if max a.f p.f < min a.t p.t then [⟨max a.f p.f, min a.t p.t, ()⟩] else []) := by
  unfold andG; rw [take_snoc hp, List.flatMap_append]; simp
theorem lessP_step {l m : List (Pc Unit)} {k : Nat} {p : Pc Unit} (hp : l[k]? = some p) : lessP (l.take (k + 1)) m = lessP (l.take k) m ++ lessG p.f p.t m := by
  unfold lessP; rw [take_snoc hp, List.flatMap_append]; simp
theorem lessG_skip {f t : Int} {b : Pc Unit} {r : List (Pc Unit)} (h : b.t ≤ f ∨ t ≤ b.f) : lessG f t (b :: r) = lessG f t r := by rw [lessG, if_pos h]
theorem lessG_cut {f t : Int} {b : Pc Unit} {r : List (Pc Unit)} (h : ¬ (b.t ≤ f ∨ t ≤ b.f)) : lessG f t (b :: r) = (if f < b.f then [⟨f, b.f, ()⟩] else []) ++ lessG (min b.t t) t r := by rw [lessG, if_neg h]

theorem own_setOther {w : World} {base e size n : Nat} {v : Value} {xs : List Value} {g o : Nat} {u : Value} (h : w.ownsRow base e size v n xs) (hne : ∀ b, v.ownBlock = some b → b ≠ g) : (w.setCell ⟨g, o, none⟩ u).ownsRow base e size v n xs := by
  obtain ⟨h1, h2⟩ := h
  refine ⟨h1, ?_⟩
  rcases h2 with h2 | ⟨g', cap, cur, hv, hb, hg, h3⟩
  · exact .inl h2
  · exact .inr ⟨g', cap, cur, hv, hb, setOther hg (by subst hv; exact hne g' rfl), h3⟩
theorem ownL_setOther {α : Type} {enc : α → List Value} {w : World} {base e size : Nat} {v : Value} {l : List α} {g o : Nat} {u : Value} (h : Own enc size e base w v l) (hne : ∀ b, v.ownBlock = some b → b ≠ g) : Own enc size e base (w.setCell ⟨g, o, none⟩ u) v l := own_setOther h hne

set_option maxRecDepth 10000 in
set_option maxHeartbeats 8000000 in
theorem less_any (l m : List (Pc Unit)) (A B : Option Addr) (c d : Nat) (w : World) (hl : RowAt encU 2 w w.heap.size A l) (hm : RowAt encU 2 w w.heap.size B m) (h1 : l.length ≤ 900) (h2 : m.length ≤ 900) (cl : Canon MD l) (cm : Canon MD m) :
    Calls Tryd.prog 47 #[.agg #[.slice A l.length c], .agg #[.slice B m.length d]] w fun e w' => (∃ A' c' r, e = .returned (.agg #[.slice A' r.length c']) ∧ RowAt encU 2 w' w'.heap.size A' r ∧ (A' = none → c' = 0) ∧ SetOf MD (lessP l m) r) ∧ Below w.heap.size w w' := by
  obtain ⟨inf0, hi, jz0, jz1, jz2⟩ := info_parts infoSp
  have HV := Lib.hid (lessP_valid cl.valid cm.valid)
  have HL := Lib.hid hl
  have HM := Lib.hid hm
  have hnl : l.length * (m.length + 1) ≤ 900 * 901 := Nat.mul_le_mul h1 (by omega)
  have HLEN : Hid (∀ k (p : Pc Unit), (lessP (l.take k) m ++ lessG p.f p.t m).length ≤ 900 * 901 + 901) := fun k p => by
    have e1 := lessP_len (l.take k) m
    have e2 : (l.take k).length * (m.length + 1) ≤ l.length * (m.length + 1) := Nat.mul_le_mul_right _ (List.length_take_le' ..)
    have e3 := lessG_len p.f p.t m
    rw [List.length_append]
    omega
  have HTOT : Hid ((lessP l m).length ≤ 900 * 901) := Nat.le_trans (lessP_len l m) hnl
  clear hl hm cl cm hnl
  go_enter Tryd.func47, Tryd.ntmps47
  go_wp2_with fail
  have R0 : Hid ((((w.alloc (.cells #[.slice A l.length c] 67)).alloc (.cells #[.slice B m.length d] 67)).alloc (.cells #[.slice none 0 0] 67)).heap[w.heap.size + 1 + 1]? = some (.cells #[.slice none 0 0] 67 (0, 0))) := blk_new (by simp)
  have B0 : Hid ((((w.alloc (.cells #[.slice A l.length c] 67)).alloc (.cells #[.slice B m.length d] 67)).alloc (.cells #[.slice none 0 0] 67)).heap[w.heap.size + 1]? = some (.cells #[.slice B m.length d] 67 (0, 0))) := blk_old (blk_new (by simp))
  have hw0 : Below w.heap.size w (((w.alloc (.cells #[.slice A l.length c] 67)).alloc (.cells #[.slice B m.length d] 67)).alloc (.cells #[.slice none 0 0] 67)) := by (repeat' (first | with_reducible exact Below.refl _ _ | with_reducible assumption | with_reducible refine Below.drew ?_ | with_reducible refine below_drewN ?_ _ | with_reducible refine Below.setCell ?_ ?_ _ | with_reducible refine Below.alloc ?_ ?_ _ | omega | (simp; done) | (simp; omega)))
  have hz0 : (((w.alloc (.cells #[.slice A l.length c] 67)).alloc (.cells #[.slice B m.length d] 67)).alloc (.cells #[.slice none 0 0] 67)).heap.size = w.heap.size + 3 := by simp
  generalize (((w.alloc (.cells #[.slice A l.length c] 67)).alloc (.cells #[.slice B m.length d] 67)).alloc (.cells #[.slice none 0 0] 67)) = w0 at *
  go_loopw [5, 13] (fun v i wr => ∃ (k : Nat) (out : List (Pc Unit)), k ≤ l.length ∧ i = .int .i64 k ∧ Own encU 2 91 w0.heap.size wr v out ∧ Hid (out = lessP (l.take k) m) ∧ Below w0.heap.size w0 wr) (fun _ i _ => l.length - (intOf i).toNat)
  case atStart => exact ⟨0, [], Nat.zero_le _, rfl, Own.nil, rfl, Below.refl _ _⟩
  case round =>
    obtain ⟨k, out, hk, rfl, hown, hJ, hwr⟩ := hrel
    have zr := hwr.size
    have hw1 : Below w.heap.size w wr := hw0.trans (hwr.mono (by omega))
    have B1 : Hid (wr.heap[w.heap.size + 1]? = some (.cells #[.slice B m.length d] 67 (0, 0))) := (hwr.block _ (by omega)).trans B0.out
    have cB := cellH B1
    have lB := lt_of_H B1
    have HO := Lib.hid hown
    clear hown
    by_cases hlt : k < l.length
    · obtain ⟨p, hp⟩ : ∃ p, l[k]? = some p := ⟨l[k], List.getElem?_eq_getElem hlt⟩
      obtain ⟨g, off, rfl, hg, k0, k1⟩ := cells2 (HL.out.below hw1 (Nat.le_refl _)) hp
      have hlt2 : (k : Int) < (l.length : Int) := by omega
      have HST := Lib.hid (lessP_step (m := m) hp)
      clear hp
      go_wp2_with fail
      obtain ⟨ga, hga⟩ : ∃ g, wr.heap.size = g := ⟨_, rfl⟩
      have AB : Hid ((wr.alloc (.cells #[.int .i64 p.f, .int .i64 p.t] 91)).heap[ga]? = some (.cells #[.int .i64 p.f, .int .i64 p.t] 91 (0, 0))) := blk_new hga
      have hgz : ga < (wr.alloc (.cells #[.int .i64 p.f, .int .i64 p.t] 91)).heap.size := by simp; omega
      have hga0 : w0.heap.size ≤ ga := by omega
      rw [hga]
      go_loopw [5, 20] (fun v i wr => ∃ (j : Nat) (f : Int) (out2 : List (Pc Unit)), j ≤ m.length ∧ i = .int .i64 j ∧ Own encU 2 91 w0.heap.size wr v out2 ∧ Hid (lessP (l.take k) m ++ lessG p.f p.t m = out2 ++ lessG f p.t (m.drop j)) ∧ Hid (wr.heap[ga]? = some (.cells #[.int .i64 f, .int .i64 p.t] 91 (0, 0))) ∧ (∀ b, v.ownBlock = some b → b ≠ ga) ∧ ga < wr.heap.size ∧ Below w0.heap.size w0 wr) (fun _ i _ => m.length - (intOf i).toNat)
      case atStart => exact ⟨0, p.f, out, Nat.zero_le _, rfl, own_below HO.out (by (repeat' (first | with_reducible exact Below.refl _ _ | with_reducible assumption | with_reducible refine Below.drew ?_ | with_reducible refine below_drewN ?_ _ | with_reducible refine Below.setCell ?_ ?_ _ | with_reducible refine Below.alloc ?_ ?_ _ | omega | (simp; done) | (simp; omega)))), (by show _ = _; rw [hJ.out]; simp), AB, (fun b hb => by have := (HO.out.lt b hb).2; omega), hgz, by (repeat' (first | with_reducible exact Below.refl _ _ | with_reducible assumption | with_reducible refine Below.drew ?_ | with_reducible refine below_drewN ?_ _ | with_reducible refine Below.setCell ?_ ?_ _ | with_reducible refine Below.alloc ?_ ?_ _ | omega | (simp; done) | (simp; omega)))⟩
      case round =>
        clear AB hwr zr hw1 B1 cB lB
        obtain ⟨j, f, out2, hj, rfl, hown2, hJ2, AB, hne, hsz, hwr⟩ := hrel
        have zq := hwr.size
        have hw2 : Below w.heap.size w wr := hw0.trans (hwr.mono (by omega))
        have cA := cellH AB
        have fA := frozH AB
        have hlen : out2.length ≤ 900 * 901 + 901 := by
          have h := HLEN.out k p
          rw [hJ2.out, List.length_append] at h
          omega
        have HO2 := Lib.hid hown2
        clear hown2
        by_cases hlt3 : j < m.length
        · obtain ⟨q, hq⟩ : ∃ q, m[j]? = some q := ⟨m[j], List.getElem?_eq_getElem hlt3⟩
          obtain ⟨g2, off2, rfl, hg2, j0, j1⟩ := cells2 (HM.out.below hw2 (Nat.le_refl _)) hq
          have hlt4 : (j : Int) < (m.length : Int) := by omega
          have HDR := Lib.hid (drop_cons hq)
          clear hq
          by_cases hc1 : q.t ≤ f
          · have e1 : decide (q.t ≤ f) = true := decide_eq_true hc1
            have HSU : Hid (lessG f p.t (m.drop j) = lessG f p.t (m.drop (j + 1))) := by show _ = _; rw [HDR.out, lessG_skip (.inl hc1)]
            clear hc1
            go_wp2_with fail
            go_roundw
            case rel => exact ⟨j + 1, f, out2, by omega, by go_num, own_below HO2.out (by (repeat' (first | with_reducible exact Below.refl _ _ | with_reducible assumption | with_reducible refine Below.drew ?_ | with_reducible refine below_drewN ?_ _ | with_reducible refine Below.setCell ?_ ?_ _ | with_reducible refine Below.alloc ?_ ?_ _ | omega | (simp; done) | (simp; omega)))), (by show _ = _; rw [hJ2.out, HSU.out]), blk_old AB.out, hne, by simp; omega, by (repeat' (first | with_reducible exact Below.refl _ _ | with_reducible assumption | with_reducible refine Below.drew ?_ | with_reducible refine below_drewN ?_ _ | with_reducible refine Below.setCell ?_ ?_ _ | with_reducible refine Below.alloc ?_ ?_ _ | omega | (simp; done) | (simp; omega)))⟩
            case measure => simp [intOf]; omega
          · have e1 : decide (q.t ≤ f) = false := decide_eq_false hc1
            by_cases hc2 : p.t ≤ q.f
            · have e2 : decide (p.t ≤ q.f) = true := decide_eq_true hc2
              have HSU : Hid (lessG f p.t (m.drop j) = lessG f p.t (m.drop (j + 1))) := by show _ = _; rw [HDR.out, lessG_skip (.inr hc2)]
              clear hc1 hc2
              go_wp2_with fail
              go_roundw
              case rel => exact ⟨j + 1, f, out2, by omega, by go_num, own_below HO2.out (by (repeat' (first | with_reducible exact Below.refl _ _ | with_reducible assumption | with_reducible refine Below.drew ?_ | with_reducible refine below_drewN ?_ _ | with_reducible refine Below.setCell ?_ ?_ _ | with_reducible refine Below.alloc ?_ ?_ _ | omega | (simp; done) | (simp; omega)))), (by show _ = _; rw [hJ2.out, HSU.out]), blk_old AB.out, hne, by simp; omega, by (repeat' (first | with_reducible exact Below.refl _ _ | with_reducible assumption | with_reducible refine Below.drew ?_ | with_reducible refine below_drewN ?_ _ | with_reducible refine Below.setCell ?_ ?_ _ | with_reducible refine Below.alloc ?_ ?_ _ | omega | (simp; done) | (simp; omega)))⟩
              case measure => simp [intOf]; omega
            · have e2 : decide (p.t ≤ q.f) = false := decide_eq_false hc2
              have HCU : Hid (lessG f p.t (m.drop j) = (if f < q.f then [⟨f, q.f, ()⟩] else []) ++ lessG (min q.t p.t) p.t (m.drop (j + 1))) := by show _ = _; rw [HDR.out, lessG_cut (fun h => h.elim hc1 hc2)]
              clear hc1 hc2
              by_cases hc3 : f < q.f
              · have e3 : decide (f < q.f) = true := decide_eq_true hc3
                have HR := HCU.out
                rw [if_pos hc3] at HR
                replace HCU := Lib.hid HR
                clear hc3 HR
                go_wp2_with (at_builtin; go_must (refine wpList_append_lies _ rfl (.tmp 41) (.tmp 47) 59 rfl w0.heap.size 91 inf0 _ 2 16 Tryd.underlying59 hi jz0 jz1 jz2 rfl (by decide) _ out2.length _ rfl (own_below HO2.out (by (repeat' (first | with_reducible exact Below.refl _ _ | with_reducible assumption | with_reducible refine Below.drew ?_ | with_reducible refine below_drewN ?_ _ | with_reducible refine Below.setCell ?_ ?_ _ | with_reducible refine Below.alloc ?_ ?_ _ | omega | (simp; done) | (simp; omega))))) ⟨wr.heap.size + 1, 0, none⟩ 1 1 [.int .i64 f, .int .i64 q.f] rfl rfl (World.news_of_block (cs := #[.int .i64 f, .int .i64 q.f]) (blk_new (by simp))) (by simp [Value.oneCell']) (by decide) (by unfold maxLen; omega) (by omega) (by simp; omega) _ rfl ?_); intro g9 c9 w9 hown9 hgrow9 hat9 hlt9; have AB9 : Hid (w9.heap[ga]? = some (.cells #[.int .i64 f, .int .i64 p.t] 91 (0, 0))) := (hgrow9.block _ (by simp; omega) (fun e => hne _ e.symm rfl)).trans (blk_old (blk_old AB.out)); have BB9 : Hid (w9.heap[wr.heap.size]? = some (.cells #[.int .i64 q.f, .int .i64 q.t] 91 (0, 0))) := (hgrow9.block _ (by simp; omega) (fun e => by have h9 := (HO2.out.lt _ e.symm).2; omega)).trans (blk_old (blk_new rfl)); have cA9 := cellH AB9; have fA9 := frozH AB9; have cB9 := cellH BB9; have z9 : wr.heap.size < w9.heap.size := lt_of_H BB9; have hga9 : ga ≠ wr.heap.size := (by omega); have hb9 : Below w0.heap.size w0 w9 := Below.grown (by (repeat' (first | with_reducible exact Below.refl _ _ | with_reducible assumption | with_reducible refine Below.drew ?_ | with_reducible refine below_drewN ?_ _ | with_reducible refine Below.setCell ?_ ?_ _ | with_reducible refine Below.alloc ?_ ?_ _ | omega | (simp; done) | (simp; omega)))) hgrow9 (by simp; omega) (fun g hg => (HO2.out.lt g hg).1); have hO9 := Lib.hid (Own.snoc (x := (⟨f, q.f, ()⟩ : Pc Unit)) (l := out2) hown9 rfl rfl); have hn9 : ∀ b, (Value.slice (some ⟨g9, 0, none⟩) (out2.length + 1) c9).ownBlock = some b → b ≠ ga := (fun b hb => by cases hb; show g9 ≠ ga; exact hat9.elim (fun h => hne _ h) (fun h => by have h : g9 = wr.heap.size + 1 + 1 := (by first | exact h | simpa using h); omega)); clear hown9 hgrow9 hat9)
                go_roundw
                case rel => exact ⟨j + 1, min q.t p.t, out2 ++ [⟨f, q.f, ()⟩], by omega, by go_num, ownL_setOther hO9.out hn9, (by show _ = _; rw [hJ2.out, HCU.out, List.append_assoc]), setBlk0 AB9.out _, hn9, by simp; omega, by (repeat' (first | with_reducible exact Below.refl _ _ | with_reducible assumption | with_reducible refine Below.drew ?_ | with_reducible refine below_drewN ?_ _ | with_reducible refine Below.setCell ?_ ?_ _ | with_reducible refine Below.alloc ?_ ?_ _ | omega | (simp; done) | (simp; omega)))⟩
                case measure => simp [intOf]; omega
              · have e3 : decide (f < q.f) = false := decide_eq_false hc3
                have HR := HCU.out
                rw [if_neg hc3, List.nil_append] at HR
                replace HCU := Lib.hid HR
                clear hc3 HR
                go_wp2_with fail
                go_roundw
                case rel => exact ⟨j + 1, min q.t p.t, out2, by omega, by go_num, own_below (ownL_setOther HO2.out hne) (by (repeat' (first | with_reducible exact Below.refl _ _ | with_reducible assumption | with_reducible refine Below.drew ?_ | with_reducible refine below_drewN ?_ _ | with_reducible refine Below.setCell ?_ ?_ _ | with_reducible refine Below.alloc ?_ ?_ _ | omega | (simp; done) | (simp; omega)))), (by show _ = _; rw [hJ2.out, HCU.out]), blk_old (setBlk0 AB.out _), hne, by simp; omega, by (repeat' (first | with_reducible exact Below.refl _ _ | with_reducible assumption | with_reducible refine Below.drew ?_ | with_reducible refine below_drewN ?_ _ | with_reducible refine Below.setCell ?_ ?_ _ | with_reducible refine Below.alloc ?_ ?_ _ | omega | (simp; done) | (simp; omega)))⟩
                case measure => simp [intOf]; omega
        · obtain rfl : j = m.length := by omega
          have HFI : Hid (lessP (l.take k) m ++ lessG p.f p.t m = out2 ++ (if f < p.t then [⟨f, p.t, ()⟩] else [])) := by show _ = _; rw [hJ2.out, List.drop_length]; rfl
          by_cases hc : f < p.t
          · have e1 : decide (f < p.t) = true := decide_eq_true hc
            have HR := HFI.out
            rw [if_pos hc] at HR
            replace HFI := Lib.hid HR
            clear hc HR
            go_wp2_with (at_builtin; go_must (refine wpList_append_lies _ rfl (.tmp 61) (.tmp 63) 59 rfl w0.heap.size 91 inf0 _ 2 16 Tryd.underlying59 hi jz0 jz1 jz2 rfl (by decide) _ out2.length _ rfl (own_below HO2.out (by (repeat' (first | with_reducible exact Below.refl _ _ | with_reducible assumption | with_reducible refine Below.drew ?_ | with_reducible refine below_drewN ?_ _ | with_reducible refine Below.setCell ?_ ?_ _ | with_reducible refine Below.alloc ?_ ?_ _ | omega | (simp; done) | (simp; omega))))) ⟨wr.heap.size, 0, none⟩ 1 1 [.int .i64 f, .int .i64 p.t] rfl rfl (World.news_of_block (cs := #[.int .i64 f, .int .i64 p.t]) (blk_new (by simp))) (by simp [Value.oneCell']) (by decide) (by unfold maxLen; omega) (by omega) (by simp; omega) _ rfl ?_); intro g9 c9 w9 hown9 hgrow9 hat9 hlt9)
            go_roundw
            case rel =>
              refine ⟨k + 1, out2 ++ [⟨f, p.t, ()⟩], by omega, by go_num, Own.snoc hown9 (by simp) (by simp [encU]), (by show _ = _; rw [HST.out, HFI.out]), ?_⟩
              exact Below.grown (by (repeat' (first | with_reducible exact Below.refl _ _ | with_reducible assumption | with_reducible refine Below.drew ?_ | with_reducible refine below_drewN ?_ _ | with_reducible refine Below.setCell ?_ ?_ _ | with_reducible refine Below.alloc ?_ ?_ _ | omega | (simp; done) | (simp; omega)))) hgrow9 (by simp; omega) (fun g hg => (HO2.out.lt g hg).1)
            case measure => simp [intOf]; omega
          · have e1 : decide (f < p.t) = false := decide_eq_false hc
            have HR := HFI.out
            rw [if_neg hc, List.append_nil] at HR
            replace HFI := Lib.hid HR
            clear hc HR
            go_wp2_with fail
            go_roundw
            case rel => exact ⟨k + 1, out2, by omega, by go_num, HO2.out, (by show _ = _; rw [HST.out, HFI.out]), hwr⟩
            case measure => simp [intOf]; omega
    · obtain rfl : k = l.length := by omega
      have HE : Hid (out = lessP l m) := by show _ = _; rw [hJ.out, List.take_length]
      obtain ⟨A2, c2, rfl, hr2, _, _⟩ := own_line (fun x _ => encU_len x) HO.out
      have HR2 := Lib.hid hr2
      have R1 : Hid (wr.heap[w.heap.size + 1 + 1]? = some (.cells #[.slice none 0 0] 67 (0, 0))) := (hwr.block _ (by omega)).trans R0.out
      have hol : out.length ≤ 1000000 := by rw [HE.out]; have := HTOT.out; omega
      have HVO : Hid (∀ p ∈ out, ValidS MD p) := by show ∀ p ∈ out, _; rw [HE.out]; exact HV.out
      clear hr2 HO hJ cB lB B1
      go_wp2_with fail
      refine (joinedS_any out A2 c2 _ HR2.out hol HVO.out).mono ?_
      rintro e w6 ⟨⟨A6, c6, r6, rfl, hr6, hA6, hB6, hset6⟩, hb6⟩
      have hw6 : Below w.heap.size w w6 := stepH hw1 hb6
      replace R1 := keepH hb6 R1.out
      have cR := cellH R1
      have fR := frozH R1
      have HR6 := Lib.hid hr6
      have HS6 : Hid (SetOf MD (lessP l m) r6) := by show SetOf _ _ _; rw [← HE.out]; exact hset6
      have hl6 := lt_of_H R1
      clear hb6 hr6 hset6
      go_wp2_with fail
      have cR2 := cellH (Lib.hid (setBox R1.out (.slice A6 r6.length c6)))
      refine bodyPost_ret (v := .agg #[.slice A6 r6.length c6]) (by simp [results, Tryd.results47, go_sem, cR2]) rfl ⟨⟨A6, c6, r6, rfl, ?_, hA6, HS6.out⟩, by (repeat' (first | with_reducible exact Below.refl _ _ | with_reducible assumption | with_reducible refine Below.drew ?_ | with_reducible refine below_drewN ?_ _ | with_reducible refine Below.setCell ?_ ?_ _ | with_reducible refine Below.alloc ?_ ?_ _ | omega | (simp; done) | (simp; omega)))⟩
      exact rowKeepL HR6.out (by simp) (fun a ha => Below.heap_setCell _ _ _ _ (by have h := hB6 a ha; dsimp only; omega))

end Go.Proofs.YtmodofbelpaelaaDoor
