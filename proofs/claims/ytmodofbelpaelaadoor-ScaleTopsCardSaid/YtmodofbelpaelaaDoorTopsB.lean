/- The iterator of Tops: walk. -/
import Derived.Test.YtmodofbelpaelaaDoorTopsA
import Derived.Deep.DeepCutAuto
import Derived.Deep.RegionHeld3
namespace Go.Proofs.YtmodofbelpaelaaDoor
open Go.RowKit Go.Shelf
attribute [local go_sem] Oper.semAt_some

/-- what Tops gives from the k-th bracket on -/
def topsG (s : List BI) : Nat → Nat → List (Nat × Rat)
  | 0, _ => []
  | f + 1, k => match s[k]? with
    | none => []
    | some b => match atI s b.1 b.2.1 with
      | .ok y => (k, y) :: topsG s f (k + 1)
      | .error _ => []
def topsL (s : List BI) (k : Nat) : List (Nat × Rat) := topsG s (s.length - k) k

theorem topsL_end {s : List BI} {k : Nat} (h : s.length ≤ k) : topsL s k = [] := by unfold topsL; rw [show s.length - k = 0 by omega]; rfl
theorem topsL_ok {s : List BI} {k : Nat} {b : BI} {y : Rat} (hb : s[k]? = some b) (h : atI s b.1 b.2.1 = .ok y) : topsL s k = (k, y) :: topsL s (k + 1) := by
  have hk : k < s.length := (List.getElem?_eq_some_iff.1 hb).1
  unfold topsL
  rw [show s.length - k = (s.length - (k + 1)) + 1 by omega, topsG, hb]
  simp only [h]
theorem topsL_no {s : List BI} {k : Nat} {b : BI} {g : Nat} (hb : s[k]? = some b) (h : atI s b.1 b.2.1 = .error g) : topsL s k = [] := by
  have hk : k < s.length := (List.getElem?_eq_some_iff.1 hb).1
  unfold topsL
  rw [show s.length - k = (s.length - (k + 1)) + 1 by omega, topsG, hb]
  simp only [h]

def encT (x : Nat × Rat) : Array Value := #[.int .i64 x.1, .agg #[.int .i64 x.2.num, .int .i64 x.2.den]]

theorem rowKeep {α : Type} {enc : α → List Value} {size B B' : Nat} {w w' : World} {A : Option Addr} {l : List α} (h : RowAt enc size w B A l) (hB : B ≤ B') (hk : ∀ a, A = some a → w'.heap[a.block]? = w.heap[a.block]?) : RowAt enc size w' B' A l := fun k x hx => by
  obtain ⟨b, off, e, h2, h3⟩ := h k x hx
  have hq : w'.heap[b]? = w.heap[b]? := hk _ e
  exact ⟨b, off, e, by omega, fun j u hj => (World.cell?_of_block (a := ⟨b, off + k * size + j, none⟩) hq).trans (h3 j u hj)⟩

theorem onlyCell {a w : World} {p : Addr} {v : Value} (h : OnlyL [] a w) (hc : a.cell? p = some v) : w.cell? p = some v := cellOf h.all hc

set_option maxRecDepth 100000 in
set_option maxHeartbeats 8000000 in
theorem tops1_in (s : List BI) (A : Option Addr) (c : Nat) (E : Nat → Addr) (w : World) (hm : s.length ≤ 1000) (hI : ∀ b ∈ s, In4 b) (hE : Env LC E w) (n l lo Bx hi : Nat) (hBx : lo ≤ Bx ∧ Bx < hi) (hA : ∀ a, A = some a → lo ≤ a.block ∧ a.block < hi) (J Jx : List (Nat × Rat) → World → Prop) (W : World) (hJ : AbidesFrom W.heap.size J)
    (hY : ∀ pre y W1, J pre W1 → pre.length < s.length → YieldAt Fence.wide (n - 1) Tryd.prog l (encT y) W1 fun e W' => (e = .returned (.bool true) ∧ J (pre ++ [y]) W' ∧ KeepR w.heap.size lo hi W1 W') ∨ (e = .returned (.bool false) ∧ Jx (pre ++ [y]) W'))
    (hW : Below w.heap.size w W) (hhi : hi ≤ W.heap.size) (h1 : Hid (W.heap[Bx]? = some (.cells #[.slice A s.length c] 22 (0, 0)))) (hl : RowAt encR 4 W W.heap.size A s) (h0 : J [] W) :
    CallsIn Fence.wide n Tryd.prog 53 #[.func (.yield l) #[] #[], .pointer (some ⟨Bx, 0, none⟩)] W fun e W' => (∃ v, e = .returned v) ∧
      ((∃ ys, ys = topsL s 1 ∧ J ys W') ∨ (∃ pre, pre <+: topsL s 1 ∧ Jx pre W')) := by
  have HL := Lib.hid hl
  have HE := Lib.hid hE
  have HI := Lib.hid hI
  have HA := Lib.hid hA
  clear hl hE hI hA
  refine callsIn_of_wp Tryd.func53 rfl trivial ?_ rfl; simp only [Tryd.ntmps53, List.size_toArray, List.length_cons, List.length_nil, Nat.reduceAdd, Nat.reduceSub, Array.replicate_succ, Array.replicate_zero, List.push_toArray, List.append_toArray, List.nil_append, List.cons_append]
  have c1 := cellH h1
  have l1 := lt_of_H h1
  gi_wp2
  gi_loopw [3] (fun i wr => ∃ (k : Nat) (pre : List (Nat × Rat)), (k = 1 ∨ k ≤ s.length) ∧ 1 ≤ k ∧ i = .int .i64 k ∧ pre.length + 1 = k ∧ Hid (pre ++ topsL s k = topsL s 1) ∧ J pre wr ∧ KeepR w.heap.size lo hi W wr) (fun i _ => s.length - (intOf i).toNat)
  case atStart => exact ⟨1, [], .inl rfl, Nat.le_refl _, rfl, rfl, rfl, h0, KeepR.refl _ _ _ _⟩
  case round =>
    clear c1
    obtain ⟨k, pre, hk, hk1, rfl, hpl, hpre, hJs, hkr⟩ := hrel
    have hw0 : Below w.heap.size w wr := hW.trans hkr.below
    have z0 := hw0.size
    have S : Hid (wr.heap[Bx]? = some (.cells #[.slice A s.length c] 22 (0, 0))) := (hkr.mid _ hBx.1 hBx.2).trans h1.out
    have hsz : W.heap.size ≤ wr.heap.size := hkr.below.size
    have HR := Lib.hid (rowKeep (B' := wr.heap.size) HL.out hsz (fun a ha => hkr.mid _ (HA.out a ha).1 (HA.out a ha).2))
    by_cases hlt : k < s.length
    · obtain ⟨⟨n1, d1, n2, d2⟩, hb⟩ : ∃ b, s[k]? = some b := ⟨s[k], List.getElem?_eq_getElem hlt⟩
      obtain ⟨⟨a1, a2⟩, ⟨a3, a4⟩, _⟩ := HI.out _ (List.mem_of_getElem? hb)
      dsimp only at a1 a2 a3 a4
      obtain ⟨gr, off, hAe, hgB, k0, k1, _, _⟩ := cells4 HR.out hb
      subst hAe
      replace k0 : wr.cell? ⟨gr, off + k * 4, none⟩ = some (.int .i64 n1) := k0
      replace k1 : wr.cell? ⟨gr, off + k * 4 + 1, none⟩ = some (.int .i64 d1) := k1
      have x0 : wr.cell? ⟨Bx, 0, none⟩ = some (.slice (some ⟨gr, off, none⟩) s.length c) := cellH S 0
      have HB := Lib.hid hb
      clear hb
      have i1 : (k : Int) < (s.length : Int) := by omega
      have i2 : (0 : Int) ≤ (k : Int) := by omega
      have i3 : ((k : Int)).toNat = k := by omega
      have hpl2 : pre.length < s.length := by omega
      have HPL := Lib.hid hpl
      clear hpl
      have HAT9 := Lib.hid (fun w' (h : Below wr.heap.size wr w') => at15_any s (some ⟨gr, off, none⟩) c n1 d1 E w' ((HR.out.below h (Nat.le_refl _)).more h.size) (by omega) HI.out ⟨a1, a2⟩ ⟨a3, a4⟩ (HE.out.below (hw0.trans (h.mono z0))))
      cases ha : atI s n1 d1
      · rename_i ga
        have HAA := Lib.hid ha
        clear ha
        have HT := Lib.hid (topsL_no HB.out HAA.out)
        have hen := fun w => eql_nil (E ga) w
        gi_upto_region 3 with fail
        refine (wpIn_wide (n := n)).2 ?_
        have lg : gr < wr.heap.size := cell_lt k0
        have HK0 := Lib.hid k0
        have HK1 := Lib.hid k1
        clear k0 k1 x0
        go_upto_region 3 with fail
        go_cut [4, 5] (fun s4 s5 wx => ∃ g : Nat, s4 = .pointer (some ⟨g, 0, none⟩) ∧ s5 = .iface 245 (.pointer (some (E ga))) ∧ OnlyL [] wr wx ∧ Below w.heap.size w wx ∧ Hid (wx.heap[Bx]? = some (.cells #[.slice (some ⟨gr, off, none⟩) s.length c] 22 (0, 0))) ∧ Hid (wx.heap[g]? = some (.cells #[.int .i64 0, .int .i64 0] 29 (0, 0))))
        case first =>
          as_aux_lemma =>
            have hw1 := hw0
            have kS0 : wr.cell? ⟨Bx, 0, none⟩ = some (.slice (some ⟨gr, off, none⟩) s.length c) := cellH S 0
            have kk0 : wr.cell? ⟨gr, off + k * 4, none⟩ = some (.int .i64 n1) := HK0.out
            have kk1 : wr.cell? ⟨gr, off + k * 4 + 1, none⟩ = some (.int .i64 d1) := HK1.out
            have lS := lt_of_H S
            have nS : Bx ≠ wr.heap.size := Nat.ne_of_lt lS
            go_region_held3 (fun w' => w'.cell? ⟨Bx, 0, none⟩ = some (.slice (some ⟨gr, off, none⟩) s.length c) ∧ w'.cell? ⟨gr, off + k * 4, none⟩ = some (.int .i64 n1) ∧ w'.cell? ⟨gr, off + k * 4 + 1, none⟩ = some (.int .i64 d1)) (first | with_reducible exact ⟨kS0, kk0, kk1⟩ | with_reducible exact ⟨cell_set (cell_set kS0 (by first | assumption | (dsimp only; assumption) | (dsimp only; omega))) (by first | assumption | (dsimp only; assumption) | (dsimp only; omega)), cell_set (cell_set kk0 (by first | assumption | (dsimp only; assumption) | (dsimp only; omega))) (by first | assumption | (dsimp only; assumption) | (dsimp only; omega)), cell_set (cell_set kk1 (by first | assumption | (dsimp only; assumption) | (dsimp only; omega))) (by first | assumption | (dsimp only; assumption) | (dsimp only; omega))⟩ | go_keep)
              (first | (go_at_call 48; refine (HAT9.out _ (by (repeat' (first | with_reducible exact Below.refl _ _ | with_reducible assumption | with_reducible refine Below.drew ?_ | with_reducible refine below_drewN ?_ _ | with_reducible refine Below.setCell ?_ ?_ _ | with_reducible refine Below.alloc ?_ ?_ _ | omega | (simp; done) | (simp; omega))))).mono ?_; rintro e w1 ⟨⟨n', d', err, rfl, hr⟩, hb1⟩; rw [HAA.out] at hr; obtain ⟨rfl, rfl, rfl⟩ := hr; have ho1 : OnlyL [] wr w1 := OnlyL.step (by (repeat' (first | with_reducible exact OnlyL.refl _ _ | with_reducible assumption | with_reducible refine OnlyL.drew ?_ | with_reducible refine OnlyL.drewN ?_ _ | with_reducible refine OnlyL.setCell ?_ ?_ _ | with_reducible refine OnlyL.alloc ?_ _ | omega | (simp; done) | (simp; omega)))) hb1; have hw1 : Below w.heap.size w w1 := stepH (by (repeat' (first | with_reducible exact Below.refl _ _ | with_reducible assumption | with_reducible refine Below.drew ?_ | with_reducible refine below_drewN ?_ _ | with_reducible refine Below.setCell ?_ ?_ _ | with_reducible refine Below.alloc ?_ ?_ _ | omega | (simp; done) | (simp; omega)))) hb1; have zw1 := hw1.size; (try (have NB := keepH hb1 (by with_reducible first | exact blk_new rfl | exact drew_old (blk_new rfl) | exact NB.out | exact drew_old NB.out); have cNB := cellH NB; have fNB := frozH NB)); replace S := keepH hb1 (by first | with_reducible exact S.out | with_reducible exact blk_old S.out | with_reducible exact drew_old S.out | with_reducible exact drew_old (blk_old S.out)); have kS0 : w1.cell? ⟨Bx, 0, none⟩ = some (.slice (some ⟨gr, off, none⟩) s.length c) := cellH S 0; have kk0 : w1.cell? ⟨gr, off + k * 4, none⟩ = some (.int .i64 n1) := (onlyCell ho1 HK0.out); have kk1 : w1.cell? ⟨gr, off + k * 4 + 1, none⟩ = some (.int .i64 d1) := (onlyCell ho1 HK1.out); have lS := lt_of_H S; have nS : Bx ≠ w1.heap.size := Nat.ne_of_lt lS))
            all_goals go_wp2_with fail
            all_goals go_meet
            all_goals exact ⟨_, rfl, rfl, (by (repeat' (first | with_reducible exact OnlyL.refl _ _ | with_reducible assumption | with_reducible refine OnlyL.drew ?_ | with_reducible refine OnlyL.drewN ?_ _ | with_reducible refine OnlyL.setCell ?_ ?_ _ | with_reducible refine OnlyL.alloc ?_ _ | omega | (simp; done) | (simp; omega)))), (by (repeat' (first | with_reducible exact Below.refl _ _ | with_reducible assumption | with_reducible refine Below.drew ?_ | with_reducible refine below_drewN ?_ _ | with_reducible refine Below.setCell ?_ ?_ _ | with_reducible refine Below.alloc ?_ ?_ _ | omega | (simp; done) | (simp; omega)))), (by with_reducible first | exact S | exact setH2o S (by assumption) | exact Lib.hid (blk_old S.out)), (by first | with_reducible exact setH2 NB.out | exact blk_new rfl)⟩
        case rest =>
          as_aux_lemma =>
            clear S
            obtain ⟨gY, rfl, rfl, hoX, hw2, S, Y⟩ := hcut
            obtain ⟨w2, rfl⟩ : ∃ x : World, x = wc := ⟨_, rfl⟩
            have z2 := hw2.size
            have cS := cellH S
            obtain ⟨lS, lS1, lS2⟩ := ltH S
            have cY := cellH Y
            obtain ⟨lY, lY1, lY2⟩ := ltH Y
            have HF : Hid (pre = topsL s 1) := by have h := hpre.out; rw [HT.out, List.append_nil] at h; exact h
            gi_wp2_with fail
            refine ⟨(fun _ h => by cases h), ?_⟩
            gi_wp2_with fail
            refine bodyPost_ret (results_none rfl _ _ _) rfl ?_
            exact ⟨⟨_, rfl⟩, .inl ⟨_, HF.out, abide hJ hJs hoX.all⟩⟩
      · rename_i ga
        have HAA := Lib.hid ha
        clear ha
        have HT := Lib.hid (topsL_ok HB.out HAA.out)
        gi_upto_region 3 with fail
        refine (wpIn_wide (n := n)).2 ?_
        have lg : gr < wr.heap.size := cell_lt k0
        have HK0 := Lib.hid k0
        have HK1 := Lib.hid k1
        clear k0 k1 x0
        go_upto_region 3 with fail
        go_cut [4, 5] (fun s4 s5 wx => ∃ g : Nat, s4 = .pointer (some ⟨g, 0, none⟩) ∧ s5 = .nilIface ∧ OnlyL [] wr wx ∧ Below w.heap.size w wx ∧ Hid (wx.heap[Bx]? = some (.cells #[.slice (some ⟨gr, off, none⟩) s.length c] 22 (0, 0))) ∧ Hid (wx.heap[g]? = some (.cells #[.int .i64 ga.num, .int .i64 ga.den] 29 (0, 0))))
        case first =>
          as_aux_lemma =>
            have hw1 := hw0
            have kS0 : wr.cell? ⟨Bx, 0, none⟩ = some (.slice (some ⟨gr, off, none⟩) s.length c) := cellH S 0
            have kk0 : wr.cell? ⟨gr, off + k * 4, none⟩ = some (.int .i64 n1) := HK0.out
            have kk1 : wr.cell? ⟨gr, off + k * 4 + 1, none⟩ = some (.int .i64 d1) := HK1.out
            have lS := lt_of_H S
            have nS : Bx ≠ wr.heap.size := Nat.ne_of_lt lS
            go_region_held3 (fun w' => w'.cell? ⟨Bx, 0, none⟩ = some (.slice (some ⟨gr, off, none⟩) s.length c) ∧ w'.cell? ⟨gr, off + k * 4, none⟩ = some (.int .i64 n1) ∧ w'.cell? ⟨gr, off + k * 4 + 1, none⟩ = some (.int .i64 d1)) (first | with_reducible exact ⟨kS0, kk0, kk1⟩ | with_reducible exact ⟨cell_set (cell_set kS0 (by first | assumption | (dsimp only; assumption) | (dsimp only; omega))) (by first | assumption | (dsimp only; assumption) | (dsimp only; omega)), cell_set (cell_set kk0 (by first | assumption | (dsimp only; assumption) | (dsimp only; omega))) (by first | assumption | (dsimp only; assumption) | (dsimp only; omega)), cell_set (cell_set kk1 (by first | assumption | (dsimp only; assumption) | (dsimp only; omega))) (by first | assumption | (dsimp only; assumption) | (dsimp only; omega))⟩ | go_keep)
              (first | (go_at_call 48; refine (HAT9.out _ (by (repeat' (first | with_reducible exact Below.refl _ _ | with_reducible assumption | with_reducible refine Below.drew ?_ | with_reducible refine below_drewN ?_ _ | with_reducible refine Below.setCell ?_ ?_ _ | with_reducible refine Below.alloc ?_ ?_ _ | omega | (simp; done) | (simp; omega))))).mono ?_; rintro e w1 ⟨⟨n', d', err, rfl, hr⟩, hb1⟩; rw [HAA.out] at hr; obtain ⟨rfl, rfl, rfl⟩ := hr; have ho1 : OnlyL [] wr w1 := OnlyL.step (by (repeat' (first | with_reducible exact OnlyL.refl _ _ | with_reducible assumption | with_reducible refine OnlyL.drew ?_ | with_reducible refine OnlyL.drewN ?_ _ | with_reducible refine OnlyL.setCell ?_ ?_ _ | with_reducible refine OnlyL.alloc ?_ _ | omega | (simp; done) | (simp; omega)))) hb1; have hw1 : Below w.heap.size w w1 := stepH (by (repeat' (first | with_reducible exact Below.refl _ _ | with_reducible assumption | with_reducible refine Below.drew ?_ | with_reducible refine below_drewN ?_ _ | with_reducible refine Below.setCell ?_ ?_ _ | with_reducible refine Below.alloc ?_ ?_ _ | omega | (simp; done) | (simp; omega)))) hb1; have zw1 := hw1.size; (try (have NB := keepH hb1 (by with_reducible first | exact blk_new rfl | exact drew_old (blk_new rfl) | exact NB.out | exact drew_old NB.out); have cNB := cellH NB; have fNB := frozH NB)); replace S := keepH hb1 (by first | with_reducible exact S.out | with_reducible exact blk_old S.out | with_reducible exact drew_old S.out | with_reducible exact drew_old (blk_old S.out)); have kS0 : w1.cell? ⟨Bx, 0, none⟩ = some (.slice (some ⟨gr, off, none⟩) s.length c) := cellH S 0; have kk0 : w1.cell? ⟨gr, off + k * 4, none⟩ = some (.int .i64 n1) := (onlyCell ho1 HK0.out); have kk1 : w1.cell? ⟨gr, off + k * 4 + 1, none⟩ = some (.int .i64 d1) := (onlyCell ho1 HK1.out); have lS := lt_of_H S; have nS : Bx ≠ w1.heap.size := Nat.ne_of_lt lS))
            all_goals go_wp2_with fail
            all_goals go_meet
            all_goals exact ⟨_, rfl, rfl, (by (repeat' (first | with_reducible exact OnlyL.refl _ _ | with_reducible assumption | with_reducible refine OnlyL.drew ?_ | with_reducible refine OnlyL.drewN ?_ _ | with_reducible refine OnlyL.setCell ?_ ?_ _ | with_reducible refine OnlyL.alloc ?_ _ | omega | (simp; done) | (simp; omega)))), (by (repeat' (first | with_reducible exact Below.refl _ _ | with_reducible assumption | with_reducible refine Below.drew ?_ | with_reducible refine below_drewN ?_ _ | with_reducible refine Below.setCell ?_ ?_ _ | with_reducible refine Below.alloc ?_ ?_ _ | omega | (simp; done) | (simp; omega)))), (by with_reducible first | exact S | exact setH2o S (by assumption) | exact Lib.hid (blk_old S.out)), (by first | with_reducible exact setH2 NB.out | exact blk_new rfl)⟩
        case rest =>
          as_aux_lemma =>
            clear S
            obtain ⟨gY, rfl, rfl, hoX, hw2, S, Y⟩ := hcut
            obtain ⟨w2, rfl⟩ : ∃ x : World, x = wc := ⟨_, rfl⟩
            have z2 := hw2.size
            have cS := cellH S
            obtain ⟨lS, lS1, lS2⟩ := ltH S
            have cY := cellH Y
            obtain ⟨lY, lY1, lY2⟩ := ltH Y
            gi_upto_region 4 with fail
            clear cS lS lS1 lS2 cY lY lY1 lY2
            have HF : Hid (pre ++ [(k, ga)] ++ topsL s (k + 1) = topsL s 1) := by have h := hpre.out; rw [HT.out] at h; show _ = _; rw [List.append_assoc]; exact h
            have hol : OnlyL [] wr w2 := hoX
            obtain ⟨fn, tmps, assign, body, hy, hR⟩ := hY pre (k, ga) w2 (abide hJ hJs hol.all) hpl2
            dsimp only [encT] at hy
            have hkr2 := hkr.trans (KeepR.ofBelow (lo := lo) (hi := hi) hol.all (Nat.le_trans hW.size hsz) (Nat.le_trans hhi hsz))
            have cS := cellH S
            obtain ⟨lS, lS1, lS2⟩ := ltH S
            have cY := cellH Y
            obtain ⟨lY, lY1, lY2⟩ := ltH Y
            gi_wp2_with fail
            refine ⟨(fun hd => by cases hd), hR.mono ?_⟩
            rintro e W3 (⟨rfl, hJ3, hk3⟩ | ⟨rfl, hJx3⟩)
            · gi_wp2_with fail
              go_roundw
              case rel => exact ⟨k + 1, pre ++ [(k, ga)], .inr hlt, by omega, by go_num, (by rw [List.length_append, List.length_singleton, HPL.out]), HF, hJ3, hkr2.trans hk3⟩
              case measure => simp [intOf]; omega
            · gi_wp2_with fail
              refine bodyPost_ret (results_none rfl _ _ _) rfl ?_
              exact ⟨⟨_, rfl⟩, .inr ⟨_, ⟨_, HF.out⟩, hJx3⟩⟩
    · have HF : Hid (pre = topsL s 1) := by have h := hpre.out; rw [topsL_end (Nat.le_of_not_lt hlt), List.append_nil] at h; exact h
      have cS := cellH S
      have hdk : decide (k < s.length) = false := decide_eq_false hlt
      gi_wp2_with fail
      go_end0
      exact ⟨⟨_, rfl⟩, .inl ⟨_, HF.out, hJs⟩⟩

theorem tops_stops (s : List BI) (A : Option Addr) (c : Nat) (E : Nat → Addr) (w : World) (hm : s.length ≤ 1000) (hI : ∀ b ∈ s, In4 b) (hE : Env LC E w) (n lo Bx hi : Nat) (hBx : lo ≤ Bx ∧ Bx < hi) (hA : ∀ a, A = some a → lo ≤ a.block ∧ a.block < hi) (W0 : World) (hW0 : Below w.heap.size w W0) (hhi : hi ≤ W0.heap.size)
    (h1 : Hid (W0.heap[Bx]? = some (.cells #[.slice A s.length c] 22 (0, 0)))) (hl : RowAt encR 4 W0 W0.heap.size A s) :
    SeqStopsK Fence.wide n Tryd.prog 53 #[.pointer (some ⟨Bx, 0, none⟩)] encT (KeepR w.heap.size lo hi) (fun ys => ys = topsL s 1) (fun pre => pre <+: topsL s 1) s.length W0 := fun l J Jx W hW hJ _ hY h0 =>
  tops1_in s A c E w hm hI hE n l lo Bx hi hBx hA J Jx W hJ hY (hW0.trans (hW.mono hW0.size)) (Nat.le_trans hhi hW.size) ((hW.block _ (Nat.lt_of_lt_of_le hBx.2 hhi)).trans h1.out) ((hl.below hW (Nat.le_refl _)).more hW.size) h0

end Go.Proofs.YtmodofbelpaelaaDoor
