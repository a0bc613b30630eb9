/- The fewest brackets: walks. -/
import Derived.Test.YtmankldedhgdiaaDoorSoB
import Derived.Laws.StructEq
namespace Go.Proofs.YtmankldedhgdiaaDoor
open Go.RowKit

theorem own_one {α : Type} {enc : α → List Value} {size e base g : Nat} {w : World} {x : α} {cs : Array Value} (h : w.heap[g]? = some (.cells cs e (0, 0))) (hb : base ≤ g) (hs : (enc x).length = size) (hc : cs.toList = enc x) : Own enc size e base w (.slice (some ⟨g, 0, none⟩) 1 1) [x] := by
  refine ⟨by simpa using hs, .inr ⟨g, 1, cs, rfl, hb, h, Nat.le_refl _, by decide, ?_, ?_⟩⟩
  · have := congrArg List.length hc; simp only [Array.length_toList] at this; omega
  · simp only [List.length_cons, List.length_nil, Nat.zero_add, Nat.one_mul, List.flatMap_cons, List.flatMap_nil, List.append_nil, hc]
    exact List.take_of_length_le (by omega)
theorem eqFrac (a b c d : Int) (w : World) : (Op.equalIn 10000 24 (.agg #[.int .i64 a, .int .i64 b]) (.agg #[.int .i64 c, .int .i64 d])).run Tryd.prog w = .ok (a == c && b == d) w := by
  have u3 := Tryd.underlying3
  have hS : Tryd.prog.underlying 24 = some (.struct (Tryd.prog.fieldsOf 24)) := by kernel_rfl
  rw [show (10000 : Nat) = 9999 + 1 from rfl, run_equalIn_agg w 9999 24 _ _ hS (by kernel_rfl)]
  simp only [Program.fieldsOf, Tryd.underlying24]
  go_simp
  by_cases h1 : a = c <;> by_cases h2 : b = d <;> simp [h1, h2]
theorem neFrac {p q : Rat} {b : Bool} (h : decide (¬ p = q) = b) (w : World) : (binOp .neq 24 (.agg #[.int .i64 p.num, .int .i64 p.den]) (.agg #[.int .i64 q.num, .int .i64 q.den])).run Tryd.prog w = .ok (.bool b) w := by
  rw [run_neq_struct, eqFrac, ← h]
  show Result.ok (Value.bool _) w = _
  congr 2
  by_cases h : p = q
  · subst h; simp
  · rw [decide_eq_true h]
    by_cases h1 : p.num = q.num
    · have h2 : ¬ (p.den : Int) = q.den := fun e => h (fv_inj h1 e)
      simp [h1, h2]
    · simp [h1]
theorem bd2 {q : Rat} (h : Good q) : -9223372036854775808 ≤ q.num ∧ q.num ≤ 9223372036854775807 := ⟨(bds h).1, (bds h).2.1⟩
theorem bd2n {q : Rat} (h : Good q) : -9223372036854775808 ≤ (q.den : Int) ∧ (q.den : Int) ≤ 9223372036854775807 := (bds h).2.2
theorem few_out {s : List (Rat × Rat)} {o : List (Rat × Rat)} (h : o = few 0 s) : normL s = if o = [] then [(0, 0)] else o := by subst h; rfl

set_option maxRecDepth 100000 in
set_option maxHeartbeats 4000000 in
theorem fewest_any (gs : List (Rat × Rat)) (A : Option Addr) (c : Nat) (w : World) (hl : RowAt encR 4 w w.heap.size A (gs.map bR)) (hm : gs.length ≤ 1000) :
    Calls Tryd.prog 27 #[.slice A gs.length c] w fun e w' => (∃ v, e = .returned v ∧ Own encR 4 31 w.heap.size w' v ((normL gs).map bR)) ∧ Below w.heap.size w w' := by
  obtain ⟨inf0, hi, jz0, jz1, jz2⟩ := info_parts infoBr
  have HL := Lib.hid hl
  clear hl
  go_enter Tryd.func27, Tryd.ntmps27
  go_wp2_with fail
  refine (zero15_any _).mono ?_
  rintro e w1 ⟨rfl, hb1⟩
  have hw1 : Below w.heap.size w w1 := stepH (by (repeat' (first | with_reducible exact Below.refl _ _ | with_reducible assumption | with_reducible refine Below.drew ?_ | with_reducible refine below_drewN ?_ _ | with_reducible refine Below.setCell ?_ ?_ _ | with_reducible refine Below.alloc ?_ ?_ _ | omega | (simp; done) | (simp; omega)))) hb1
  have z1 := hw1.size
  clear hb1
  go_wp2_with fail
  have hw2 : Below w.heap.size w (w1.alloc (.cells #[.int .i64 0, .int .i64 1] 24)) := by (repeat' (first | with_reducible exact Below.refl _ _ | with_reducible assumption | with_reducible refine Below.drew ?_ | with_reducible refine below_drewN ?_ _ | with_reducible refine Below.setCell ?_ ?_ _ | with_reducible refine Below.alloc ?_ ?_ _ | omega | (simp; done) | (simp; omega)))
  have R : Hid ((w1.alloc (.cells #[.int .i64 0, .int .i64 1] 24)).heap[w1.heap.size]? = some (.cells #[.int .i64 0, .int .i64 1] 24 (0, 0))) := (blk_new rfl)
  generalize (w1.alloc (.cells #[.int .i64 0, .int .i64 1] 24)) = w2 at *
  have z2 := hw2.size
  have cR := cellH R
  obtain ⟨lR, lR1, lR2⟩ := ltH R
  clear cR lR lR1 lR2
  have hlt2 : w1.heap.size < w2.heap.size := lt_of_H R
  go_loopw [3, 10] (fun v i wr => ∃ (k : Nat) (r : Rat) (o : List (Rat × Rat)), k ≤ gs.length ∧ o.length ≤ k ∧ i = .int .i64 k ∧ Hid (o ++ few r (gs.drop k) = few 0 gs) ∧ Own encR 4 31 w2.heap.size wr v (o.map bR) ∧ Hid (wr.heap[w1.heap.size]? = some (.cells #[.int .i64 r.num, .int .i64 r.den] 24 (0, 0))) ∧ Below w.heap.size w wr ∧ w2.heap.size ≤ wr.heap.size) (fun _ i _ => gs.length - (intOf i).toNat)
  case atStart => exact ⟨0, 0, [], Nat.zero_le _, Nat.le_refl _, rfl, rfl, Own.nil, R, hw2, Nat.le_refl _⟩
  case round =>
    clear R
    obtain ⟨k, r, o, hk, ho, rfl, hr, hown, R, hw0, hz20⟩ := hrel
    have z0 := hw0.size
    obtain ⟨A2, c2, rfl, _, _, _⟩ := Own.rows (fun x _ => encR_len x) hown
    rw [List.length_map] at *
    have HO : Hid (wr.ownsRow w2.heap.size 31 4 (.slice A2 o.length c2) o.length ((o.map bR).flatMap encR)) := by unfold Own at hown; rw [List.length_map] at hown; exact Lib.hid hown
    clear hown
    by_cases hlt : k < gs.length
    · obtain ⟨b, hb⟩ : ∃ b, gs[k]? = some b := ⟨gs[k], List.getElem?_eq_getElem hlt⟩
      obtain ⟨g, off, hA, hgB, k0, k1, k2, k3⟩ := cells4 (HL.out.below hw0 (Nat.le_refl _)) (show (gs.map bR)[k]? = some (bR b) by rw [List.getElem?_map, hb]; rfl)
      subst hA
      replace k0 : wr.cell? ⟨g, off + k * 4, none⟩ = some (.int .i64 b.1.num) := k0
      replace k1 : wr.cell? ⟨g, off + k * 4 + 1, none⟩ = some (.int .i64 b.1.den) := k1
      replace k2 : wr.cell? ⟨g, off + k * 4 + 2, none⟩ = some (.int .i64 b.2.num) := k2
      replace k3 : wr.cell? ⟨g, off + k * 4 + 3, none⟩ = some (.int .i64 b.2.den) := k3
      have HD := Lib.hid (drop_cons hb)
      clear hb
      by_cases hbr : b.2 = r
      · have HBR := Lib.hid hbr
        have hne := neFrac (p := b.2) (q := r) (b := false) (by simp [hbr])
        clear hbr
        have HR2 : Hid (o ++ few r (gs.drop (k + 1)) = few 0 gs) := by show _ = _; rw [← hr.out, HD.out, few_same HBR.out]
        have cR := cellH R
        obtain ⟨lR, lR1, lR2⟩ := ltH R
        have fzR := frozH R
        go_wp2_with fail
        go_roundw
        case rel => exact ⟨k + 1, r, o, by omega, by omega, by go_num, HR2, by unfold Own; rw [List.length_map]; exact own_below HO.out (by (repeat' (first | with_reducible exact Below.refl _ _ | with_reducible assumption | with_reducible refine Below.drew ?_ | with_reducible refine below_drewN ?_ _ | with_reducible refine Below.setCell ?_ ?_ _ | with_reducible refine Below.alloc ?_ ?_ _ | omega | (simp; done) | (simp; omega)))), Lib.hid (blk_old R.out), by (repeat' (first | with_reducible exact Below.refl _ _ | with_reducible assumption | with_reducible refine Below.drew ?_ | with_reducible refine below_drewN ?_ _ | with_reducible refine Below.setCell ?_ ?_ _ | with_reducible refine Below.alloc ?_ ?_ _ | omega | (simp; done) | (simp; omega))), by simp; omega⟩
        case measure => simp [intOf]; omega
      · have HBR := Lib.hid hbr
        have hne := neFrac (p := b.2) (q := r) (b := true) (by simp [hbr])
        clear hbr
        have HR2 : Hid ((o ++ [b]) ++ few b.2 (gs.drop (k + 1)) = few 0 gs) := by show _ = _; rw [← hr.out, HD.out, few_new HBR.out, List.append_assoc]; rfl
        have cR := cellH R
        obtain ⟨lR, lR1, lR2⟩ := ltH R
        have fzR := frozH R
        have gF := own_ne HO.out (k := w1.heap.size) hlt2
        go_wp2_with (at_builtin; go_must (refine wpList_append_own _ rfl (.tmp 18) (.tmp 20) 22 rfl w2.heap.size 31 inf0 _ 4 32 Tryd.underlying22 hi jz0 jz1 jz2 rfl (by decide) _ o.length _ rfl (own_below HO.out (by (repeat' (first | with_reducible exact Below.refl _ _ | with_reducible assumption | with_reducible refine Below.drew ?_ | with_reducible refine below_drewN ?_ _ | with_reducible refine Below.setCell ?_ ?_ _ | with_reducible refine Below.alloc ?_ ?_ _ | omega | (simp; done) | (simp; omega))))) ⟨wr.heap.size + 1, 0, none⟩ 1 1 [.int .i64 b.1.num, .int .i64 b.1.den, .int .i64 b.2.num, .int .i64 b.2.den] rfl rfl (World.news_of_block (cs := #[.int .i64 b.1.num, .int .i64 b.1.den, .int .i64 b.2.num, .int .i64 b.2.den]) (blk_new (by simp))) (by simp [Value.oneCell']) (by unfold maxLen; omega) (by omega) (by simp; omega) ?_); intro v' w9 hown9 hgrow9 _; have R9 : Hid (w9.heap[w1.heap.size]? = some (.cells #[.int .i64 r.num, .int .i64 r.den] 24 (0, 0))) := Lib.hid ((hgrow9.block _ (by simp; omega) gF).trans (blk_old (blk_old R.out))); have B9 : Hid (w9.heap[wr.heap.size]? = some (.cells #[.int .i64 b.1.num, .int .i64 b.1.den, .int .i64 b.2.num, .int .i64 b.2.den] 31 (0, 0))) := Lib.hid ((hgrow9.block _ (by simp; omega) (fun e => by have := (HO.out.lt _ e.symm).2; omega)).trans (blk_old (blk_new rfl))); have cR9 := cellH R9; have fR9 := frozH R9; have cB9 := cellH B9; have hz9 := hgrow9.size; simp at hz9)
        go_roundw
        case rel =>
          refine ⟨k + 1, b.2, o ++ [b], by omega, by simp; omega, by go_num, HR2, ?_, setH2 R9.out, ?_, by simp; omega⟩
          · rw [List.map_append]; exact own_setCell (own_setCell (Own.snoc (l := o.map bR) (x := bR b) hown9 (by simp) (by simp [encR, bR])) hlt2) hlt2
          · exact Below.setCell (Below.setCell (Below.grown (by (repeat' (first | with_reducible exact Below.refl _ _ | with_reducible assumption | with_reducible refine Below.drew ?_ | with_reducible refine below_drewN ?_ _ | with_reducible refine Below.setCell ?_ ?_ _ | with_reducible refine Below.alloc ?_ ?_ _ | omega | (simp; done) | (simp; omega)))) hgrow9 (by simp; omega) (fun g hg => by have := (HO.out.lt g hg).1; omega)) (by dsimp only; omega) _) (by dsimp only; omega) _
        case measure => simp [intOf]; omega
    · obtain rfl : k = gs.length := by omega
      have HE : Hid (o = few 0 gs) := by have h := hr.out; rw [List.drop_length] at h; show _ = _; rw [← h]; simp [few]
      clear hr
      cases o with
      | nil =>
        have HF : Hid (normL gs = [(0, 0)]) := by show _ = _; rw [few_out HE.out]; rfl
        rw [show ([] : List (Rat × Rat)).length = 0 from rfl]
        have hw1 := hw0
        go_wp2_with fail
        refine (zero15_any _).mono ?_
        rintro e w21 ⟨rfl, hb21⟩
        have hw21 : Below w.heap.size w w21 := stepH (by (repeat' (first | with_reducible exact Below.refl _ _ | with_reducible assumption | with_reducible refine Below.drew ?_ | with_reducible refine below_drewN ?_ _ | with_reducible refine Below.setCell ?_ ?_ _ | with_reducible refine Below.alloc ?_ ?_ _ | omega | (simp; done) | (simp; omega)))) hb21
        have z21 := hw21.size
        clear hb21 hw0 z0
        go_wp2_with fail
        refine (zero15_any _).mono ?_
        rintro e w22 ⟨rfl, hb22⟩
        have hw22 : Below w.heap.size w w22 := stepH (by (repeat' (first | with_reducible exact Below.refl _ _ | with_reducible assumption | with_reducible refine Below.drew ?_ | with_reducible refine below_drewN ?_ _ | with_reducible refine Below.setCell ?_ ?_ _ | with_reducible refine Below.alloc ?_ ?_ _ | omega | (simp; done) | (simp; omega)))) hb22
        have z22 := hw22.size
        clear hb22 hw21 z21
        go_wp2_with fail
        go_ret
        refine ⟨⟨_, rfl, ?_⟩, by (repeat' (first | with_reducible exact Below.refl _ _ | with_reducible assumption | with_reducible refine Below.drew ?_ | with_reducible refine below_drewN ?_ _ | with_reducible refine Below.setCell ?_ ?_ _ | with_reducible refine Below.alloc ?_ ?_ _ | omega | (simp; done) | (simp; omega)))⟩
        rw [HF.out]
        exact own_one (blk_new rfl) (by omega) rfl rfl
      | cons b9 o9 =>
        have HF : Hid (normL gs = b9 :: o9) := by show _ = _; rw [few_out HE.out]; rfl
        have hl0 : (((b9 :: o9).length : Int) == 0) = false := beq_false_of_ne (by simp only [List.length_cons]; omega)
        generalize hgl : (b9 :: o9).length = n9 at *
        go_wp2_with fail
        go_ret
        refine ⟨⟨_, rfl, ?_⟩, by (repeat' (first | with_reducible exact Below.refl _ _ | with_reducible assumption | with_reducible refine Below.drew ?_ | with_reducible refine below_drewN ?_ _ | with_reducible refine Below.setCell ?_ ?_ _ | with_reducible refine Below.alloc ?_ ?_ _ | omega | (simp; done) | (simp; omega)))⟩
        rw [HF.out]
        unfold Own
        rw [List.length_map, hgl]
        exact ownsRow_base HO.out (by omega)

set_option maxRecDepth 100000 in
set_option maxHeartbeats 4000000 in
/-- Norm of a scale that is one -/
theorem norm_any (gs : List (Rat × Rat)) (A : Option Addr) (c : Nat) (E : Nat → Addr) (w : World) (hl : RowAt encR 4 w w.heap.size A (gs.map bR)) (hm : gs.length ≤ 1000) (hg : ∀ b ∈ gs, GoodB b) (hs : scaleE (gs.map bR) = none) (hE : Env LC E w) :
    Calls Tryd.prog 9 #[.slice A gs.length c] w fun e w' => (∃ v, e = .returned (.tuple #[v, .nilIface]) ∧ Own encR 4 31 w.heap.size w' v ((normL gs).map bR)) ∧ Below w.heap.size w w' := by
  have HL := Lib.hid hl
  have HS := Lib.hid hs
  have hV := valid15_any (gs.map bR) A c E w hl (by rw [List.length_map]; omega) (fun b hb => by
    obtain ⟨y, hy, rfl⟩ := List.mem_map.1 hb
    exact ⟨bd2 (hg y hy).1, bd2n (hg y hy).1, bd2 (hg y hy).2, bd2n (hg y hy).2⟩) hE
  rw [List.length_map, hs] at hV
  have HV := Lib.hid hV
  clear hl hs hV hE hg
  go_enter Tryd.func9, Tryd.ntmps9
  go_wp2_with fail
  refine HV.out.mono ?_
  rintro e w1 ⟨rfl, hb1⟩
  have hw1 : Below w.heap.size w w1 := hb1
  have z1 := hw1.size
  clear hb1
  unfold errV
  go_wp2_with fail
  refine (fewest_any gs A c _ (HL.out.below hw1 (Nat.le_refl _) |>.more z1) hm).mono ?_
  rintro e w2 ⟨⟨v, rfl, hown⟩, hb2⟩
  have HO := Lib.hid hown
  clear hown
  go_wp2_with fail
  go_ret2
  exact ⟨⟨_, rfl, ownsRow_base HO.out z1⟩, stepH hw1 hb2⟩

set_option maxRecDepth 100000 in
set_option maxHeartbeats 4000000 in
theorem refNorm_any (gs : List (Rat × Rat)) (A : Option Addr) (c : Nat) (w : World) (hl : RowAt encR 4 w w.heap.size A (gs.map bR)) (hm : gs.length ≤ 1000) :
    Calls Tryd.prog 19 #[.slice A gs.length c] w fun e w' => (∃ v, e = .returned v ∧ Own encR 4 31 w.heap.size w' v ((normL gs).map bR)) ∧ Below w.heap.size w w' := by
  obtain ⟨inf0, hi, jz0, jz1, jz2⟩ := info_parts infoBr
  have HL := Lib.hid hl
  clear hl
  go_enter Tryd.func19, Tryd.ntmps19
  go_wp2_with fail
  refine (refZero_any _).mono ?_
  rintro e w1 ⟨rfl, hb1⟩
  have hw1 : Below w.heap.size w w1 := stepH (by (repeat' (first | with_reducible exact Below.refl _ _ | with_reducible assumption | with_reducible refine Below.drew ?_ | with_reducible refine below_drewN ?_ _ | with_reducible refine Below.setCell ?_ ?_ _ | with_reducible refine Below.alloc ?_ ?_ _ | omega | (simp; done) | (simp; omega)))) hb1
  have z1 := hw1.size
  clear hb1
  go_wp2_with fail
  have hw2 : Below w.heap.size w (w1.alloc (.cells #[.int .i64 0, .int .i64 1] 24)) := by (repeat' (first | with_reducible exact Below.refl _ _ | with_reducible assumption | with_reducible refine Below.drew ?_ | with_reducible refine below_drewN ?_ _ | with_reducible refine Below.setCell ?_ ?_ _ | with_reducible refine Below.alloc ?_ ?_ _ | omega | (simp; done) | (simp; omega)))
  have R : Hid ((w1.alloc (.cells #[.int .i64 0, .int .i64 1] 24)).heap[w1.heap.size]? = some (.cells #[.int .i64 0, .int .i64 1] 24 (0, 0))) := (blk_new rfl)
  generalize (w1.alloc (.cells #[.int .i64 0, .int .i64 1] 24)) = w2 at *
  have z2 := hw2.size
  have cR := cellH R
  obtain ⟨lR, lR1, lR2⟩ := ltH R
  clear cR lR lR1 lR2
  have hlt2 : w1.heap.size < w2.heap.size := lt_of_H R
  go_loopw [3, 5] (fun v i wr => ∃ (k : Nat) (r : Rat) (o : List (Rat × Rat)), k ≤ gs.length ∧ o.length ≤ k ∧ i = .int .i64 k ∧ Hid (o ++ few r (gs.drop k) = few 0 gs) ∧ Own encR 4 31 w2.heap.size wr v (o.map bR) ∧ Hid (wr.heap[w1.heap.size]? = some (.cells #[.int .i64 r.num, .int .i64 r.den] 24 (0, 0))) ∧ Below w.heap.size w wr ∧ w2.heap.size ≤ wr.heap.size) (fun _ i _ => gs.length - (intOf i).toNat)
  case atStart => exact ⟨0, 0, [], Nat.zero_le _, Nat.le_refl _, rfl, rfl, Own.nil, R, hw2, Nat.le_refl _⟩
  case round =>
    clear R
    obtain ⟨k, r, o, hk, ho, rfl, hr, hown, R, hw0, hz20⟩ := hrel
    have z0 := hw0.size
    obtain ⟨A2, c2, rfl, _, _, _⟩ := Own.rows (fun x _ => encR_len x) hown
    rw [List.length_map] at *
    have HO : Hid (wr.ownsRow w2.heap.size 31 4 (.slice A2 o.length c2) o.length ((o.map bR).flatMap encR)) := by unfold Own at hown; rw [List.length_map] at hown; exact Lib.hid hown
    clear hown
    by_cases hlt : k < gs.length
    · obtain ⟨b, hb⟩ : ∃ b, gs[k]? = some b := ⟨gs[k], List.getElem?_eq_getElem hlt⟩
      obtain ⟨g, off, hA, hgB, k0, k1, k2, k3⟩ := cells4 (HL.out.below hw0 (Nat.le_refl _)) (show (gs.map bR)[k]? = some (bR b) by rw [List.getElem?_map, hb]; rfl)
      subst hA
      replace k0 : wr.cell? ⟨g, off + k * 4, none⟩ = some (.int .i64 b.1.num) := k0
      replace k1 : wr.cell? ⟨g, off + k * 4 + 1, none⟩ = some (.int .i64 b.1.den) := k1
      replace k2 : wr.cell? ⟨g, off + k * 4 + 2, none⟩ = some (.int .i64 b.2.num) := k2
      replace k3 : wr.cell? ⟨g, off + k * 4 + 3, none⟩ = some (.int .i64 b.2.den) := k3
      have HD := Lib.hid (drop_cons hb)
      clear hb
      have i1 : (k : Int) < (gs.length : Int) := by omega
      have lR := lt_of_H R
      have x0 : wr.cell? ⟨w1.heap.size, 0, none⟩ = some (.int .i64 r.num) := cellH R 0
      have x1 : wr.cell? ⟨w1.heap.size, 1, none⟩ = some (.int .i64 r.den) := cellH R 1
      by_cases hbr : b.2 = r
      · have HSM : Hid ((b.2.num == r.num && (b.2.den : Int) == (r.den : Int)) = true) := Lib.hid (by subst hbr; simp)
        have HR2 : Hid (o ++ few r (gs.drop (k + 1)) = few 0 gs) := by show _ = _; rw [← hr.out, HD.out, few_same hbr]
        clear hbr
        go_wp2_with fail
        go_region_held3 (fun w' => w'.cell? ⟨w1.heap.size, 0, none⟩ = some (.int .i64 r.num) ∧ w'.cell? ⟨w1.heap.size, 1, none⟩ = some (.int .i64 r.den) ∧ w'.cell? ⟨g, off + k * 4 + 2, none⟩ = some (.int .i64 b.2.num) ∧ w'.cell? ⟨g, off + k * 4 + 3, none⟩ = some (.int .i64 b.2.den)) (first | with_reducible exact ⟨x0, x1, k2, k3⟩ | go_keep)
          (first | (go_at_call 23; refine (sameB_is b.2.num b.2.den r.num r.den true _ HSM.out).mono ?_; rintro e w9 ⟨rfl, hb9⟩; have hw9 : Below w.heap.size w w9 := stepH (by (repeat' (first | with_reducible exact Below.refl _ _ | with_reducible assumption | with_reducible refine Below.drew ?_ | with_reducible refine below_drewN ?_ _ | with_reducible refine Below.setCell ?_ ?_ _ | with_reducible refine Below.alloc ?_ ?_ _ | omega | (simp; done) | (simp; omega)))) hb9; have R9 := keepH hb9 (by first | exact R.out | exact drew_old R.out); have HO9 := Lib.hid (own_below HO.out (w' := w9) (by first | exact hb9 | exact ⟨hb9.os, hb9.tape, hb9.output, hb9.size, hb9.block⟩)); have hz9 := hb9.size; have x0 := cellOf hb9 (by first | exact x0 | exact cell_drew x0); have x1 := cellOf hb9 (by first | exact x1 | exact cell_drew x1); have k0 := cellOf hb9 (by first | exact k0 | exact cell_drew k0); have k1 := cellOf hb9 (by first | exact k1 | exact cell_drew k1); have k2 := cellOf hb9 (by first | exact k2 | exact cell_drew k2); have k3 := cellOf hb9 (by first | exact k3 | exact cell_drew k3)))
        have z9 := hw9.size
        try simp at hz9
        go_wp2_with fail
        go_roundw
        case rel => exact ⟨k + 1, r, o, by omega, by omega, by go_num, HR2, by unfold Own; rw [List.length_map]; exact HO9.out, R9, by (repeat' (first | with_reducible exact Below.refl _ _ | with_reducible assumption | with_reducible refine Below.drew ?_ | with_reducible refine below_drewN ?_ _ | with_reducible refine Below.setCell ?_ ?_ _ | with_reducible refine Below.alloc ?_ ?_ _ | omega | (simp; done) | (simp; omega))), by omega⟩
        case measure => simp [intOf]; omega
      · have HSM : Hid ((b.2.num == r.num && (b.2.den : Int) == (r.den : Int)) = false) := Lib.hid (by rw [pair_eq, decide_eq_false_iff_not]; intro e; injection e with e1 e2; exact hbr (fv_inj e1 e2))
        have HR2 : Hid ((o ++ [b]) ++ few b.2 (gs.drop (k + 1)) = few 0 gs) := by show _ = _; rw [← hr.out, HD.out, few_new hbr, List.append_assoc]; rfl
        clear hbr
        go_wp2_with fail
        go_region_held3 (fun w' => w'.cell? ⟨w1.heap.size, 0, none⟩ = some (.int .i64 r.num) ∧ w'.cell? ⟨w1.heap.size, 1, none⟩ = some (.int .i64 r.den) ∧ w'.cell? ⟨g, off + k * 4 + 2, none⟩ = some (.int .i64 b.2.num) ∧ w'.cell? ⟨g, off + k * 4 + 3, none⟩ = some (.int .i64 b.2.den)) (first | with_reducible exact ⟨x0, x1, k2, k3⟩ | go_keep)
          (first | (go_at_call 23; refine (sameB_is b.2.num b.2.den r.num r.den false _ HSM.out).mono ?_; rintro e w9 ⟨rfl, hb9⟩; have hw9 : Below w.heap.size w w9 := stepH (by (repeat' (first | with_reducible exact Below.refl _ _ | with_reducible assumption | with_reducible refine Below.drew ?_ | with_reducible refine below_drewN ?_ _ | with_reducible refine Below.setCell ?_ ?_ _ | with_reducible refine Below.alloc ?_ ?_ _ | omega | (simp; done) | (simp; omega)))) hb9; have R9 := keepH hb9 (by first | exact R.out | exact drew_old R.out); have HO9 := Lib.hid (own_below HO.out (w' := w9) (by first | exact hb9 | exact ⟨hb9.os, hb9.tape, hb9.output, hb9.size, hb9.block⟩)); have hz9 := hb9.size; have x0 := cellOf hb9 (by first | exact x0 | exact cell_drew x0); have x1 := cellOf hb9 (by first | exact x1 | exact cell_drew x1); have k0 := cellOf hb9 (by first | exact k0 | exact cell_drew k0); have k1 := cellOf hb9 (by first | exact k1 | exact cell_drew k1); have k2 := cellOf hb9 (by first | exact k2 | exact cell_drew k2); have k3 := cellOf hb9 (by first | exact k3 | exact cell_drew k3)))
        have z9 := hw9.size
        try simp at hz9
        have gF := own_ne HO9.out (k := w1.heap.size) hlt2
        have lg9 : g < w9.heap.size := by omega
        have gG := own_ne HO9.out (k := g) (by omega)
        go_wp2_with (at_builtin; go_must (refine wpList_append_own _ rfl (.tmp 21) (.tmp 26) 22 rfl w2.heap.size 31 inf0 _ 4 32 Tryd.underlying22 hi jz0 jz1 jz2 rfl (by decide) _ o.length _ rfl (own_below HO9.out (by (repeat' (first | with_reducible exact Below.refl _ _ | with_reducible assumption | with_reducible refine Below.drew ?_ | with_reducible refine below_drewN ?_ _ | with_reducible refine Below.setCell ?_ ?_ _ | with_reducible refine Below.alloc ?_ ?_ _ | omega | (simp; done) | (simp; omega))))) ⟨w9.heap.size, 0, none⟩ 1 1 [.int .i64 b.1.num, .int .i64 b.1.den, .int .i64 b.2.num, .int .i64 b.2.den] rfl rfl (World.news_of_block (cs := #[.int .i64 b.1.num, .int .i64 b.1.den, .int .i64 b.2.num, .int .i64 b.2.den]) (blk_new (by simp))) (by simp [Value.oneCell']) (by unfold maxLen; omega) (by omega) (by simp; omega) ?_); intro v' w10 hown9 hgrow9 _; have R10 : Hid (w10.heap[w1.heap.size]? = some (.cells #[.int .i64 r.num, .int .i64 r.den] 24 (0, 0))) := Lib.hid ((hgrow9.block _ (by simp; omega) gF).trans (blk_old R9.out)); have cR10 := cellH R10; have fR10 := frozH R10; have q2 : w10.cell? ⟨g, off + k * 4 + 2, none⟩ = some (.int .i64 b.2.num) := (World.cell?_of_block (a := ⟨g, off + k * 4 + 2, none⟩) (hgrow9.block g (by simp; omega) gG)).trans (cell_alloc k2); have q3 : w10.cell? ⟨g, off + k * 4 + 3, none⟩ = some (.int .i64 b.2.den) := (World.cell?_of_block (a := ⟨g, off + k * 4 + 3, none⟩) (hgrow9.block g (by simp; omega) gG)).trans (cell_alloc k3); have hz10 := hgrow9.size; simp at hz10)
        go_roundw
        case rel =>
          refine ⟨k + 1, b.2, o ++ [b], by omega, by simp; omega, by go_num, HR2, ?_, setH2 R10.out, ?_, by simp; omega⟩
          · rw [List.map_append]; exact own_setCell (own_setCell (Own.snoc (l := o.map bR) (x := bR b) hown9 (by simp) (by simp [encR, bR])) hlt2) hlt2
          · exact Below.setCell (Below.setCell (Below.grown (by (repeat' (first | with_reducible exact Below.refl _ _ | with_reducible assumption | with_reducible refine Below.drew ?_ | with_reducible refine below_drewN ?_ _ | with_reducible refine Below.setCell ?_ ?_ _ | with_reducible refine Below.alloc ?_ ?_ _ | omega | (simp; done) | (simp; omega)))) hgrow9 (by simp; omega) (fun g hg => by have := (HO9.out.lt g hg).1; omega)) (by dsimp only; omega) _) (by dsimp only; omega) _
        case measure => simp [intOf]; omega
    · obtain rfl : k = gs.length := by omega
      have HE : Hid (o = few 0 gs) := by have h := hr.out; rw [List.drop_length] at h; show _ = _; rw [← h]; simp [few]
      clear hr
      cases o with
      | nil =>
        have HF : Hid (normL gs = [(0, 0)]) := by show _ = _; rw [few_out HE.out]; rfl
        rw [show ([] : List (Rat × Rat)).length = 0 from rfl]
        have hw1 := hw0
        go_wp2_with fail
        refine (refZero_any _).mono ?_
        rintro e w21 ⟨rfl, hb21⟩
        have hw21 : Below w.heap.size w w21 := stepH (by (repeat' (first | with_reducible exact Below.refl _ _ | with_reducible assumption | with_reducible refine Below.drew ?_ | with_reducible refine below_drewN ?_ _ | with_reducible refine Below.setCell ?_ ?_ _ | with_reducible refine Below.alloc ?_ ?_ _ | omega | (simp; done) | (simp; omega)))) hb21
        have z21 := hw21.size
        clear hb21 hw0 z0
        go_wp2_with fail
        refine (refZero_any _).mono ?_
        rintro e w22 ⟨rfl, hb22⟩
        have hw22 : Below w.heap.size w w22 := stepH (by (repeat' (first | with_reducible exact Below.refl _ _ | with_reducible assumption | with_reducible refine Below.drew ?_ | with_reducible refine below_drewN ?_ _ | with_reducible refine Below.setCell ?_ ?_ _ | with_reducible refine Below.alloc ?_ ?_ _ | omega | (simp; done) | (simp; omega)))) hb22
        have z22 := hw22.size
        clear hb22 hw21 z21
        go_wp2_with fail
        go_ret
        refine ⟨⟨_, rfl, ?_⟩, by (repeat' (first | with_reducible exact Below.refl _ _ | with_reducible assumption | with_reducible refine Below.drew ?_ | with_reducible refine below_drewN ?_ _ | with_reducible refine Below.setCell ?_ ?_ _ | with_reducible refine Below.alloc ?_ ?_ _ | omega | (simp; done) | (simp; omega)))⟩
        rw [HF.out]
        exact own_one (blk_new rfl) (by omega) rfl rfl
      | cons b9 o9 =>
        have HF : Hid (normL gs = b9 :: o9) := by show _ = _; rw [few_out HE.out]; rfl
        have hl0 : (((b9 :: o9).length : Int) == 0) = false := beq_false_of_ne (by simp only [List.length_cons]; omega)
        generalize hgl : (b9 :: o9).length = n9 at *
        go_wp2_with fail
        go_ret
        refine ⟨⟨_, rfl, ?_⟩, by (repeat' (first | with_reducible exact Below.refl _ _ | with_reducible assumption | with_reducible refine Below.drew ?_ | with_reducible refine below_drewN ?_ _ | with_reducible refine Below.setCell ?_ ?_ _ | with_reducible refine Below.alloc ?_ ?_ _ | omega | (simp; done) | (simp; omega)))⟩
        rw [HF.out]
        unfold Own
        rw [List.length_map, hgl]
        exact ownsRow_base HO.out (by omega)

end Go.Proofs.YtmankldedhgdiaaDoor
