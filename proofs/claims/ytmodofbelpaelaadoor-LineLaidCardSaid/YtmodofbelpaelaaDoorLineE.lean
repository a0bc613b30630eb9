/- Two timelines joined: walk. -/
import Derived.Test.YtmodofbelpaelaaDoorLineD
import Derived.Test.YtmodofbelpaelaaDoorLineN
namespace Go.Proofs.YtmodofbelpaelaaDoor
open Go.RowKit

theorem cutsL_days (l m : List (Pc Int)) : Days (cutsL l m) MD l m := by
  obtain ⟨h1, h2⟩ := sortCompact ([0, MD] ++ endsL l ++ endsL m)
  refine ⟨h1, fun x => ?_⟩
  show x ∈ Lib.compact _ ↔ _
  rw [h2, List.mem_append, List.mem_append, endsL_mem, endsL_mem]
  simp only [List.mem_cons, List.not_mem_nil, or_false]
  constructor
  · rintro (((h | h) | h) | h)
    · exact .inl h
    · exact .inr (.inl h)
    · exact .inr (.inr (.inl h))
    · exact .inr (.inr (.inr h))
  · rintro (h | h | h | h)
    · exact .inl (.inl (.inl h))
    · exact .inl (.inl (.inr h))
    · exact .inl (.inr h)
    · exact .inr h

theorem cutsL_len (l m : List (Pc Int)) : (cutsL l m).length ≤ 2 + 2 * l.length + 2 * m.length := by
  refine Nat.le_trans (compact_le _) ?_
  rw [List.length_mergeSort, List.length_append, List.length_append, endsL_len, endsL_len]
  exact Nat.le_refl _

/-- the answer of a function that joins two values -/
def joinAns (o : Option Int) (e : Ending) : Prop := ∃ z : Int, e = .returned (.tuple #[.int .i64 z, .bool (vB6 o)]) ∧ ∀ v, o = some v → z = v

theorem joinP_step {γ : Type} {g : Int → Option γ} {ds : List Int} {k : Nat} {a b : Int} (ha : ds[k]? = some a) (hb : ds[k + 1]? = some b) : joinP g (ds.drop k) = (match g a with | some v => [⟨a, b, v⟩] | none => []) ++ joinP g (ds.drop (k + 1)) := by
  rw [drop_cons ha, drop_cons hb, joinP_cons]; rfl

set_option maxRecDepth 10000 in
set_option maxHeartbeats 8000000 in
theorem join6_any (l m : List (Pc Int)) (A B : Option Addr) (c d : Nat) (gf : Nat) (cb : Array Value) (F : Option Int → Option Int → Option Int) (w : World) (hl : RowAt encP 3 w w.heap.size A l) (hm : RowAt encP 3 w w.heap.size B m) (h1 : l.length ≤ 1000) (h2 : m.length ≤ 1000) (rl : Rise 0 l) (rm : Rise 0 m)
    (eg : ∀ args w, (callFunc gf args).run Tryd.prog w = .ok (.enter gf args) w)
    (hf : ∀ (x y : Option Int) (W : World), Below w.heap.size w W → Calls Tryd.prog gf (#[.int .i64 (vN x), .bool (vB6 x), .int .i64 (vN y), .bool (vB6 y)] ++ cb) W fun e w' => joinAns (F x y) e ∧ Below W.heap.size W w') :
    Calls Tryd.prog 80 #[.agg #[.slice A l.length c], .agg #[.slice B m.length d], .func (.func gf) #[] cb] w fun e w' => (∃ A' c' r, e = .returned (.agg #[.slice A' r.length c']) ∧ RowAt encP 3 w' w'.heap.size A' r ∧ (A' = none → c' = 0) ∧ (∀ a, A' = some a → w.heap.size ≤ a.block) ∧ r = joinedL (joinP (fun n => F (valL l n) (valL m n)) (cutsL l m))) ∧ Below w.heap.size w w' := by
  obtain ⟨inf0, hi, jz0, jz1, jz2⟩ := info_parts infoPc
  have HL := Lib.hid hl
  have HM := Lib.hid hm
  have HF := Lib.hid hf
  have HAT := Lib.hid (fun (n : Int) (w' : World) (h : Below w.heap.size w w') => At6_any l A c n w' ((hl.below h (Nat.le_refl _)).more h.size) (by omega) 0 rl)
  have HBT := Lib.hid (fun (n : Int) (w' : World) (h : Below w.heap.size w w') => At6_any m B d n w' ((hm.below h (Nat.le_refl _)).more h.size) (by omega) 0 rm)
  have HLN := Lib.hid (cutsL_len l m)
  obtain ⟨ds, hdq⟩ : ∃ ds, cutsL l m = ds := ⟨_, rfl⟩
  obtain ⟨g0, hg0⟩ : ∃ g0 : Int → Option Int, (fun n => F (valL l n) (valL m n)) = g0 := ⟨_, rfl⟩
  rw [hg0, hdq]
  rw [hdq] at HLN
  have hdl : ds.length ≤ 10000 := by have h := HLN.out; omega
  have HG := Lib.hid hg0
  have HDQ := Lib.hid hdq
  clear hl hm hf hg0 hdq
  go_enter Tryd.func80, Tryd.ntmps80
  go_wp2_with fail
  refine (cuts6_any l m A B c d _ ((HL.out.below (by (repeat' (first | with_reducible exact Below.refl _ _ | with_reducible assumption | with_reducible refine Below.drew ?_ | with_reducible refine below_drewN ?_ _ | with_reducible refine Below.setCell ?_ ?_ _ | with_reducible refine Below.alloc ?_ ?_ _ | omega | (simp; done) | (simp; omega)))) (Nat.le_refl _)).more (by simp; omega)) ((HM.out.below (by (repeat' (first | with_reducible exact Below.refl _ _ | with_reducible assumption | with_reducible refine Below.drew ?_ | with_reducible refine below_drewN ?_ _ | with_reducible refine Below.setCell ?_ ?_ _ | with_reducible refine Below.alloc ?_ ?_ _ | omega | (simp; done) | (simp; omega)))) (Nat.le_refl _)).more (by simp; omega)) (by omega) (by omega)).mono ?_
  rintro e w1 ⟨⟨gd, cd, rfl, hgd, hds⟩, hb1⟩
  have hw1 : Below w.heap.size w w1 := stepH (by (repeat' (first | with_reducible exact Below.refl _ _ | with_reducible assumption | with_reducible refine Below.drew ?_ | with_reducible refine below_drewN ?_ _ | with_reducible refine Below.setCell ?_ ?_ _ | with_reducible refine Below.alloc ?_ ?_ _ | omega | (simp; done) | (simp; omega)))) hb1
  have B0 := keepH hb1 (g := w.heap.size) (blk_old (blk_old (blk_new rfl)))
  have B1 := keepH hb1 (g := w.heap.size + 1) (blk_old (blk_new (by simp)))
  have R := keepH hb1 (g := w.heap.size + 1 + 1) (blk_new (by simp))
  have z1 := hw1.size
  have HD := Lib.hid hds
  have lR := lt_of_H R
  clear hb1 hds hgd
  rw [HDQ.out] at HD ⊢
  go_wp2_with fail
  go_loopw [8, 9] (fun v i wr => ∃ (k : Nat) (out : List (Pc Int)), out.length ≤ k ∧ (k = 0 ∨ k < ds.length) ∧ i = .int .i64 ((k : Int) + 1) ∧ Own encP 3 113 w1.heap.size wr v out ∧ Hid (out ++ joinP g0 (ds.drop k) = joinP g0 ds) ∧ Below w1.heap.size w1 wr) (fun _ i _ => ds.length - (intOf i).toNat)
  case atStart => exact ⟨0, [], Nat.le_refl _, .inl rfl, rfl, Own.nil, (by show _ = _; rw [List.nil_append, List.drop_zero]), Below.refl _ _⟩
  case round =>
    obtain ⟨k, out, ho, hk, rfl, hown, hJ, hwr⟩ := hrel
    have zr := hwr.size
    have hw0 : Below w.heap.size w wr := stepH hw1 hwr
    have z0 := hw0.size
    have HO := Lib.hid hown
    clear hown
    replace B0 := keepH hwr B0.out
    replace B1 := keepH hwr B1.out
    have x0 : wr.cell? ⟨w.heap.size, 0, none⟩ = some (.slice A l.length c) := cellH B0 0
    have x1 : wr.cell? ⟨w.heap.size + 1, 0, none⟩ = some (.slice B m.length d) := cellH B1 0
    by_cases hlt : k + 1 < ds.length
    · obtain ⟨a, ha⟩ : ∃ a, ds[k]? = some a := ⟨ds[k], List.getElem?_eq_getElem (by omega)⟩
      obtain ⟨b, hb⟩ : ∃ b, ds[k + 1]? = some b := ⟨ds[k + 1], List.getElem?_eq_getElem hlt⟩
      obtain ⟨_, _, e0, hgl, _⟩ := HD.out k a ha
      cases e0
      obtain ⟨_, _, e1, _, hca⟩ := (HD.out.below hwr (Nat.le_refl _)) k a ha
      cases e1
      obtain ⟨_, _, e1, _, hcb⟩ := (HD.out.below hwr (Nat.le_refl _)) (k + 1) b hb
      cases e1
      have k0 : wr.cell? ⟨gd, k, none⟩ = some (.int .i64 a) := by have := hca 0 _ rfl; simpa using this
      have k1 : wr.cell? ⟨gd, k + 1, none⟩ = some (.int .i64 b) := by have := hcb 0 _ rfl; simpa using this
      have HJ2 := Lib.hid (joinP_step (g := g0) ha hb)
      clear hca hcb ha hb
      have hlt2 : (k : Int) + 1 < (ds.length : Int) := by omega
      have i1 : (k : Int) < (ds.length : Int) := by omega
      have i2 : (0 : Int) ≤ (k : Int) := by omega
      have i3 : (k : Int) + 1 - 1 = (k : Int) := by omega
      have i4 : ((k : Int) + 1).toNat = k + 1 := by omega
      have i5 : (0 : Int) ≤ (k : Int) + 1 := by omega
      have i6 : ((k : Int)).toNat = k := by omega
      have i7 : IntKind.i64.wrap (k : Int) = (k : Int) := by rw [IntKind.wrap_i64]; omega
      have i8 : IntKind.i64.wrap ((k : Int) + 1 - 1) = (k : Int) := by rw [IntKind.wrap_i64]; omega
      go_wp2_with fail
      go_region_held3 (fun w' => w'.cell? ⟨w.heap.size, 0, none⟩ = some (.slice A l.length c) ∧ w'.cell? ⟨w.heap.size + 1, 0, none⟩ = some (.slice B m.length d) ∧ w'.cell? ⟨gd, k, none⟩ = some (.int .i64 a) ∧ w'.cell? ⟨gd, k + 1, none⟩ = some (.int .i64 b)) (first | with_reducible exact ⟨x0, x1, k0, k1⟩ | go_keep)
        (first | (go_at_call 71; refine (HAT.out a _ (by (repeat' (first | with_reducible exact Below.refl _ _ | with_reducible assumption | with_reducible refine Below.drew ?_ | with_reducible refine below_drewN ?_ _ | with_reducible refine Below.setCell ?_ ?_ _ | with_reducible refine Below.alloc ?_ ?_ _ | omega | (simp; done) | (simp; omega))))).mono ?_; rintro e w5 ⟨rfl, hb5⟩; have hw5 : Below w.heap.size w w5 := stepH (by (repeat' (first | with_reducible exact Below.refl _ _ | with_reducible assumption | with_reducible refine Below.drew ?_ | with_reducible refine below_drewN ?_ _ | with_reducible refine Below.setCell ?_ ?_ _ | with_reducible refine Below.alloc ?_ ?_ _ | omega | (simp; done) | (simp; omega)))) hb5; have hr5 : Below w1.heap.size w1 w5 := stepH (by (repeat' (first | with_reducible exact Below.refl _ _ | with_reducible assumption | with_reducible refine Below.drew ?_ | with_reducible refine below_drewN ?_ _ | with_reducible refine Below.setCell ?_ ?_ _ | with_reducible refine Below.alloc ?_ ?_ _ | omega | (simp; done) | (simp; omega)))) hb5; replace HO := Lib.hid (own_below HO.out (w' := w5) (undrew hb5)); replace x0 := cellOf hb5 (by first | exact x0 | exact cell_drew x0); replace x1 := cellOf hb5 (by first | exact x1 | exact cell_drew x1); replace k0 := cellOf hb5 (by first | exact k0 | exact cell_drew k0); replace k1 := cellOf hb5 (by first | exact k1 | exact cell_drew k1)))
      clear hb5
      go_wp2_with fail
      go_region_held3 (fun w' => w'.cell? ⟨w.heap.size, 0, none⟩ = some (.slice A l.length c) ∧ w'.cell? ⟨w.heap.size + 1, 0, none⟩ = some (.slice B m.length d) ∧ w'.cell? ⟨gd, k, none⟩ = some (.int .i64 a) ∧ w'.cell? ⟨gd, k + 1, none⟩ = some (.int .i64 b)) (first | with_reducible exact ⟨x0, x1, k0, k1⟩ | go_keep)
        (first | (go_at_call 71; refine (HBT.out a _ (by (repeat' (first | with_reducible exact Below.refl _ _ | with_reducible assumption | with_reducible refine Below.drew ?_ | with_reducible refine below_drewN ?_ _ | with_reducible refine Below.setCell ?_ ?_ _ | with_reducible refine Below.alloc ?_ ?_ _ | omega | (simp; done) | (simp; omega))))).mono ?_; rintro e w6 ⟨rfl, hb6⟩; have hw6 : Below w.heap.size w w6 := stepH (by (repeat' (first | with_reducible exact Below.refl _ _ | with_reducible assumption | with_reducible refine Below.drew ?_ | with_reducible refine below_drewN ?_ _ | with_reducible refine Below.setCell ?_ ?_ _ | with_reducible refine Below.alloc ?_ ?_ _ | omega | (simp; done) | (simp; omega)))) hb6; have hr6 : Below w1.heap.size w1 w6 := stepH (by (repeat' (first | with_reducible exact Below.refl _ _ | with_reducible assumption | with_reducible refine Below.drew ?_ | with_reducible refine below_drewN ?_ _ | with_reducible refine Below.setCell ?_ ?_ _ | with_reducible refine Below.alloc ?_ ?_ _ | omega | (simp; done) | (simp; omega)))) hb6; replace HO := Lib.hid (own_below HO.out (w' := w6) (undrew hb6)); replace x0 := cellOf hb6 (by first | exact x0 | exact cell_drew x0); replace x1 := cellOf hb6 (by first | exact x1 | exact cell_drew x1); replace k0 := cellOf hb6 (by first | exact k0 | exact cell_drew k0); replace k1 := cellOf hb6 (by first | exact k1 | exact cell_drew k1)))
      clear hb6
      obtain ⟨o, ho9⟩ : ∃ o, F (valL l a) (valL m a) = o := ⟨_, rfl⟩
      have HCF := Lib.hid (fun (W : World) (h : Below w.heap.size w W) => (show Calls Tryd.prog gf (#[.int .i64 (vN (valL l a)), .bool (vB6 (valL l a)), .int .i64 (vN (valL m a)), .bool (vB6 (valL m a))] ++ cb) W fun e w' => joinAns o e ∧ Below W.heap.size W w' from ho9 ▸ HF.out (valL l a) (valL m a) W h))
      have HGA : Hid (g0 a = o) := by show _ = _; rw [← HG.out]; exact ho9
      clear ho9
      cases o with
      | none =>
        go_wp2_with (go_at_fn gf; go_must (refine (HCF.out _ hw6).mono ?_); rintro e w7 ⟨⟨z, rfl, hz⟩, hb7⟩)
        go_roundw
        case rel => exact ⟨k + 1, out, by omega, .inr hlt, by go_num, own_below HO.out hb7, (by show _ = _; have h := hJ.out; rw [HJ2.out, HGA.out] at h; exact h), stepH hr6 hb7⟩
        case measure => simp [intOf]; omega
      | some v =>
        go_wp2_with (go_at_fn gf; go_must (refine (HCF.out _ hw6).mono ?_); rintro e w7 ⟨⟨z, rfl, hz⟩, hb7⟩)
        have HO7 := Lib.hid (own_below HO.out hb7)
        have hr7 : Below w1.heap.size w1 w7 := stepH hr6 hb7
        have z7 := hr7.size
        replace k0 := cellOf hb7 k0
        replace k1 := cellOf hb7 k1
        clear hb7 HO hw6 hr6 hw5 hr5 x0 x1
        go_region_held_law (fun w' => w'.cell? ⟨gd, k, none⟩ = some (.int .i64 a) ∧ w'.cell? ⟨gd, k + 1, none⟩ = some (.int .i64 b)) (first | with_reducible exact ⟨k0, k1⟩ | go_keep | exact ⟨(World.grownBy.cell_far hgrow9 ⟨gd, k, none⟩ (by simp; omega) (fun e => by have h9 := (HO7.out.lt _ e.symm).1; dsimp only at h9; omega)).trans (cell_drew (cell_alloc k0)), (World.grownBy.cell_far hgrow9 ⟨gd, k + 1, none⟩ (by simp; omega) (fun e => by have h9 := (HO7.out.lt _ e.symm).1; dsimp only at h9; omega)).trans (cell_drew (cell_alloc k1))⟩)
          ((refine step_append_any (by rfl) (.tmp 55) (.tmp 68) 60 (by rfl) w1.heap.size 113 inf0 _ 3 24 Tryd.underlying60 hi jz0 jz1 jz2 rfl (by decide) _ out.length _ (by rfl) ((HO7.out.alloc _).drew) (some ⟨w7.heap.size, 0, none⟩) 1 1 [.int .i64 a, .int .i64 b, .int .i64 v] (by rfl) rfl (fun ad ha j u hj => by cases ha; exact cell_drew (World.news_of_block (cs := #[.int .i64 a, .int .i64 b, .int .i64 v]) (blk_new rfl) j u hj)) (fun h => by cases h) (by simp [Value.oneCell']) (by unfold maxLen; omega) (by omega) (by simp; omega) ?_; intro v' w9 hown9 hgrow9))
        go_wp2_with fail
        go_roundw
        case rel =>
          refine ⟨k + 1, out ++ [⟨a, b, v⟩], (by simp only [List.length_append, List.length_cons, List.length_nil]; omega), .inr hlt, by go_num, Own.snoc hown9 (by simp) (by simp [encP]), ?_, Below.grown (by (repeat' (first | with_reducible exact Below.refl _ _ | with_reducible assumption | with_reducible refine Below.drew ?_ | with_reducible refine below_drewN ?_ _ | with_reducible refine Below.setCell ?_ ?_ _ | with_reducible refine Below.alloc ?_ ?_ _ | omega | (simp; done) | (simp; omega)))) hgrow9 (by simp; omega) (fun g hg => (HO7.out.lt g hg).1)⟩
          show _ = _
          have h := hJ.out
          rw [HJ2.out, HGA.out] at h
          rw [List.append_assoc]
          exact h
        case measure => simp [intOf]; omega
    · have HE : Hid (out = joinP g0 ds) := by
        show _ = _
        rw [← hJ.out]
        have h : ds.drop k = [] ∨ ∃ a, ds.drop k = [a] := by
          cases hd : ds.drop k with
          | nil => exact .inl rfl
          | cons a r =>
            have hlen : (ds.drop k).length = ds.length - k := List.length_drop
            rw [hd, List.length_cons] at hlen
            obtain rfl : r = [] := List.eq_nil_of_length_eq_zero (by omega)
            exact .inr ⟨a, rfl⟩
        rcases h with h | ⟨a, h⟩ <;> (rw [h]; simp [joinP])
      have HK := Lib.hid HO.out
      obtain ⟨A2, c2, rfl, hr2, hA2, _⟩ := own_line (fun x _ => encP_len x) HO.out
      have HR2 := Lib.hid hr2
      have R2 := keepH hwr R.out
      have ho2 : out.length ≤ 1000000 := by omega
      clear hr2 HO hJ x0 x1
      go_wp2_with fail
      refine (joined6_any out A2 c2 wr HR2.out ho2).mono ?_
      rintro e w9 ⟨⟨A3, c3, rfl, hr3, hA3, hA4⟩, hb9⟩
      have R3 := keepH hb9 R2.out
      have hw9 : Below w.heap.size w w9 := stepH hw0 hb9
      have cR := cellH R3
      have fzR := frozH R3
      have HR3 := Lib.hid hr3
      have lR3 := lt_of_H R2
      clear hb9 hr3
      rw [HE.out] at HR3 ⊢
      go_wp2_with fail
      refine bodyPost_ret (v := .agg #[.slice A3 (joinedL (joinP g0 ds)).length c3]) (by simp [results, Tryd.results80, go_sem, cR]) rfl ⟨⟨A3, c3, _, rfl, ?_, hA3, fun a ha => by have := hA4 a ha; omega, rfl⟩, by (repeat' (first | with_reducible exact Below.refl _ _ | with_reducible assumption | with_reducible refine Below.drew ?_ | with_reducible refine below_drewN ?_ _ | with_reducible refine Below.setCell ?_ ?_ _ | with_reducible refine Below.alloc ?_ ?_ _ | omega | (simp; done) | (simp; omega)))⟩
      exact rowKeepL HR3.out (by simp) (fun a ha => Below.heap_setCell _ _ _ _ (by have := hA4 a ha; dsimp only; omega))

end Go.Proofs.YtmodofbelpaelaaDoor
