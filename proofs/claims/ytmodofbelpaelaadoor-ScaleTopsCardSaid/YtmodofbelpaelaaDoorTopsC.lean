/- The walk of ScaleTops. -/
import Derived.Test.YtmodofbelpaelaaDoorTopsB
import Derived.Test.YtmodofbelpaelaaDoorRef15c
import Derived.Test.YtmodofbelpaelaaDoorInRound
import Derived.Deep.DeepCutAuto
import Derived.Deep.RegionHeld3
namespace Go.Proofs.YtmodofbelpaelaaDoor
open Go.RowKit Go.Shelf
attribute [local go_sem] Oper.semAt_some

theorem topsL_bad {s : List BI} {g : Nat} (h : scaleE s = some g) (k : Nat) : topsL s k = [] := by
  by_cases hk : k < s.length
  · exact topsL_no (List.getElem?_eq_getElem hk) (atI_err (askE_some h))
  · exact topsL_end (Nat.le_of_not_lt hk)
theorem topsL_len (s : List BI) (k : Nat) : (topsL s k).length ≤ s.length - k := by
  unfold topsL
  generalize s.length - k = f
  induction f generalizing k with
  | zero => exact Nat.le_refl _
  | succ f ih =>
    unfold topsG
    split
    · exact Nat.zero_le _
    · split
      · have := ih (k + 1); simp only [List.length_cons]; omega
      · exact Nat.zero_le _

theorem funNil (f : Fn) (cap : Array Value) (w : World) : (binOp .eql 25 (.func f #[] cap) .nilFunc).run Tryd.prog w = .ok (.bool false) w := by kernel_rfl

/-- how many brackets are told of: 1 and those that the iterator gives -/
def topsN (s : List BI) : Nat := if scaleE s = none then (topsL s 1).length + 1 else 0

/-- what the iterator gives, in its own words -/
theorem topsL_at {s : List BI} {j k : Nat} {p : Nat × Rat} (h : (topsL s k)[j]? = some p) : p.1 = k + j ∧ ∃ b, s[k + j]? = some b ∧ atI s b.1 b.2.1 = .ok p.2 := by
  induction j generalizing k with
  | zero =>
    by_cases hk : k < s.length
    · have hb := List.getElem?_eq_getElem hk
      cases ha : atI s s[k].1 s[k].2.1 with
      | error g => rw [topsL_no hb ha] at h; cases h
      | ok y => rw [topsL_ok hb ha] at h; cases h; exact ⟨rfl, _, hb, ha⟩
    · rw [topsL_end (Nat.le_of_not_lt hk)] at h; cases h
  | succ j ih =>
    by_cases hk : k < s.length
    · have hb := List.getElem?_eq_getElem hk
      cases ha : atI s s[k].1 s[k].2.1 with
      | error g => rw [topsL_no hb ha] at h; cases h
      | ok y =>
        rw [topsL_ok hb ha, List.getElem?_cons_succ] at h
        have := ih h
        rw [show k + 1 + j = k + (j + 1) by omega] at this
        exact this
    · rw [topsL_end (Nat.le_of_not_lt hk)] at h; cases h

theorem topsN_eq {s : List BI} {TL : Nat} (h : (topsL s 1).length = TL) : topsN s = TL + 1 ∨ (topsN s = 0 ∧ TL = 0) := by
  unfold topsN
  split
  · exact .inl (by rw [h])
  · rename_i hs
    cases hg : scaleE s with
    | none => exact absurd hg hs
    | some g => rw [topsL_bad hg] at h; exact .inr ⟨rfl, h.symm⟩

/-- what holds behind some rounds: the count, and all that lies ahead of it -/
def TiI {α : Type} (r : List α) (ib : Nat) (w7 : World) (pre : List α) (W : World) : Prop := W.heap[ib]? = some (.cells #[.int .i64 pre.length] 3 (0, 0)) ∧ Below ib w7 W ∧ pre = r.take pre.length
/-- .. where the loop is left -/
def TiX {α : Type} (r : List α) (ib : Nat) (w7 : World) (stop : Int) (c : Code) (pre : List α) (W : World) : Prop := ¬ pre <+: r ∨ ((pre.length : Int) = stop ∧ c = .exit 4 ∧ TiI r ib w7 pre W)
theorem TiI_own {α : Type} {r : List α} {ib B : Nat} {w7 : World} (h1 : ib ≤ w7.heap.size) (h2 : w7.heap.size ≤ B) : OwnFrom B (TiI r ib w7) := fun _ W W' row hs hg hr =>
  ⟨ownBlk hs.1 hg hr, Below.grown hs.2.1 hg (by have := hs.2.1.size; omega) (fun k e => by have := (hr k e).1; omega), hs.2.2⟩
theorem TiX_own {α : Type} {r : List α} {ib B : Nat} {w7 : World} {stop : Int} (c : Code) (h1 : ib ≤ w7.heap.size) (h2 : w7.heap.size ≤ B) : OwnFrom B (TiX r ib w7 stop c) := fun s W W' row hs hg hr => by
  rcases hs with h | ⟨h3, h4, h5⟩
  · exact .inl h
  · exact .inr ⟨h3, h4, TiI_own h1 h2 s W W' row h5 hg hr⟩
theorem OnlyL.wider {L L' : List Nat} {a w : World} (h : OnlyL L a w) (hs : ∀ k ∈ L, k ∈ L') : OnlyL L' a w := ⟨h.os, h.tape, h.output, h.size, fun k hk hn => h.block k hk (fun e => hn (hs k e))⟩
theorem prefix_one {α : Type} {r pre : List α} {x p : α} (h : (pre ++ [x]) <+: r) (hp : r[pre.length]? = some p) : x = p := by
  obtain ⟨t, rfl⟩ := h
  rw [List.append_assoc, List.getElem?_append_right (Nat.le_refl _), Nat.sub_self] at hp
  exact Option.some.inj hp
theorem prefix_len {α : Type} {r pre : List α} {x : α} (h : (pre ++ [x]) <+: r) : pre.length < r.length := by
  obtain ⟨t, rfl⟩ := h
  simp only [List.length_append, List.length_cons, List.length_nil]; omega

set_option maxRecDepth 100000 in
set_option maxHeartbeats 16000000 in
theorem scaleTops_x (s : List BI) (A : Option Addr) (c : Nat) (stop : Int) (E : Nat → Addr) (w : World) (h2 : 200 < s.length) (hE : Env LC E w) :
    Calls Tryd.prog 3 #[.slice A s.length c, .int .i64 stop] w fun e w' => e = .returned (.bool true) ∧ Below w.heap.size w w' := by
  have HE := Lib.hid hE
  clear hE
  go_enter Tryd.func3, Tryd.ntmps3
  go_wp2_with fail
  refine (first15_any E _ (HE.out.below (by (repeat' (first | with_reducible exact Below.refl _ _ | with_reducible assumption | with_reducible refine Below.drew ?_ | with_reducible refine below_drewN ?_ _ | with_reducible refine Below.setCell ?_ ?_ _ | with_reducible refine Below.alloc ?_ ?_ _ | omega | (simp; done) | (simp; omega)))))).mono ?_
  rintro e w1 ⟨rfl, hb1⟩
  have hw1 : Below w.heap.size w w1 := stepH (by (repeat' (first | with_reducible exact Below.refl _ _ | with_reducible assumption | with_reducible refine Below.drew ?_ | with_reducible refine below_drewN ?_ _ | with_reducible refine Below.setCell ?_ ?_ _ | with_reducible refine Below.alloc ?_ ?_ _ | omega | (simp; done) | (simp; omega)))) hb1
  have S := keepH hb1 (g := w.heap.size) (blk_old (blk_old (blk_new rfl)))
  have St := keepH hb1 (g := w.heap.size + 1) (blk_old (blk_new (by simp)))
  have R := keepH hb1 (g := w.heap.size + 1 + 1) (blk_new (by simp))
  have z1 := hw1.size
  clear hb1
  have cS := cellH S
  obtain ⟨lS, lS1, lS2⟩ := ltH S
  have cSt := cellH St
  obtain ⟨lSt, lSt1, lSt2⟩ := ltH St
  have cR := cellH R
  obtain ⟨lR, lR1, lR2⟩ := ltH R
  have fzR := frozH R
  go_wp2_with fail
  refine bodyPost_ret (v := .bool true) (by simp [results, Tryd.results3, go_sem, cR]) rfl ⟨rfl, by (repeat' (first | with_reducible exact Below.refl _ _ | with_reducible assumption | with_reducible refine Below.drew ?_ | with_reducible refine below_drewN ?_ _ | with_reducible refine Below.setCell ?_ ?_ _ | with_reducible refine Below.alloc ?_ ?_ _ | omega | (simp; done) | (simp; omega)))⟩

set_option maxRecDepth 100000 in
set_option maxHeartbeats 16000000 in
theorem scaleTops_g (s : List BI) (A : Option Addr) (c : Nat) (stop : Int) (E : Nat → Addr) (w : World) (hl : RowAt encR 4 w w.heap.size A s) (hI : ∀ b ∈ s, In4 b) (hE : Env LC E w) (h3 : s.length ≤ 200) :
    Calls Tryd.prog 3 #[.slice A s.length c, .int .i64 stop] w fun e w' => e = .returned (.bool true) ∧ Below w.heap.size w w' := by
  have HE := Lib.hid hE
  have HL := Lib.hid hl
  have HI := Lib.hid hI
  have hm : s.length ≤ 9223372036854775807 := by omega
  have HVA := Lib.hid (fun w' (h : Below w.heap.size w w') => refValid15_any s A c w' ((hl.below h (Nat.le_refl _)).more h.size) hm hI)
  have HTO := Lib.hid (fun w' (h : Below w.heap.size w w') => tops_any s A c w' ((hl.below h (Nat.le_refl _)).more h.size) (by omega))
  clear hE hl hI
  have hd2 : decide ((200 : Int) < (s.length : Int)) = false := decide_eq_false (by omega)
  obtain ⟨n0, hn0⟩ : ∃ n0, n0 = topsN s := ⟨_, rfl⟩
  have HN0 := Lib.hid hn0
  clear hn0
  refine (callsIn_wide (n := 3)).1 ?_; refine callsIn_of_wp_marks Tryd.func3 rfl trivial ?_ rfl; simp only [Tryd.ntmps3, List.size_toArray, List.length_cons, List.length_nil, Nat.reduceAdd, Nat.reduceSub, Array.replicate_succ, Array.replicate_zero, List.push_toArray, List.append_toArray, List.nil_append, List.cons_append]
  gi_wp2_with fail
  first | refine wide_open ?_ | refine wide_open2 ?_
  refine (first15_any E _ (HE.out.below (by (repeat' (first | with_reducible exact Below.refl _ _ | with_reducible assumption | with_reducible refine Below.drew ?_ | with_reducible refine below_drewN ?_ _ | with_reducible refine Below.setCell ?_ ?_ _ | with_reducible refine Below.alloc ?_ ?_ _ | omega | (simp; done) | (simp; omega)))))).mono ?_
  rintro e w1 ⟨rfl, hb1⟩
  have hw1 : Below w.heap.size w w1 := stepH (by (repeat' (first | with_reducible exact Below.refl _ _ | with_reducible assumption | with_reducible refine Below.drew ?_ | with_reducible refine below_drewN ?_ _ | with_reducible refine Below.setCell ?_ ?_ _ | with_reducible refine Below.alloc ?_ ?_ _ | omega | (simp; done) | (simp; omega)))) hb1
  have S := keepH hb1 (g := w.heap.size) (blk_old (blk_old (blk_new rfl)))
  have St := keepH hb1 (g := w.heap.size + 1) (blk_old (blk_new (by simp)))
  have R := keepH hb1 (g := w.heap.size + 1 + 1) (blk_new (by simp))
  have z1 := hw1.size
  clear hb1
  have cS := cellH S
  obtain ⟨lS, lS1, lS2⟩ := ltH S
  have cSt := cellH St
  obtain ⟨lSt, lSt1, lSt2⟩ := ltH St
  have cR := cellH R
  obtain ⟨lR, lR1, lR2⟩ := ltH R
  have fzR := frozH R
  skip
  gi_wp2_with fail
  first | refine wide_open ?_ | refine wide_open2 ?_
  refine (HTO.out _ (by (repeat' (first | with_reducible exact Below.refl _ _ | with_reducible assumption | with_reducible refine Below.drew ?_ | with_reducible refine below_drewN ?_ _ | with_reducible refine Below.setCell ?_ ?_ _ | with_reducible refine Below.alloc ?_ ?_ _ | omega | (simp; done) | (simp; omega))))).mono ?_
  rintro e w2 ⟨Bx, A2, c2, rfl, hBx, hbox, hrow, hA2, hb2⟩
  have hw2 : Below w.heap.size w w2 := stepH (by (repeat' (first | with_reducible exact Below.refl _ _ | with_reducible assumption | with_reducible refine Below.drew ?_ | with_reducible refine below_drewN ?_ _ | with_reducible refine Below.setCell ?_ ?_ _ | with_reducible refine Below.alloc ?_ ?_ _ | omega | (simp; done) | (simp; omega)))) hb2
  replace S := keepH hb2 S.out
  replace St := keepH hb2 St.out
  replace R := keepH hb2 R.out
  have z2 := hw2.size
  clear hb2 hw1 z1
  clear cS lS lS1 lS2 cSt lSt lSt1 lSt2 cR lR lR1 lR2 fzR
  have cS := cellH S
  obtain ⟨lS, lS1, lS2⟩ := ltH S
  have cSt := cellH St
  obtain ⟨lSt, lSt1, lSt2⟩ := ltH St
  have cR := cellH R
  obtain ⟨lR, lR1, lR2⟩ := ltH R
  have fzR := frozH R
  have HBOX := hbox
  have HROW := Lib.hid hrow
  have HA2 := Lib.hid hA2
  clear hrow hA2 hbox
  have hlbx := lt_of_H HBOX
  have hfn := funNil (.func 53) #[.pointer (some ⟨Bx, 0, none⟩)]
  have S3 := S
  have St3 := St
  have R3 := R
  have h3w := hw2
  have zh3 := h3w.size
  have hx : Below w2.heap.size w2 w2 := Below.refl _ _
  have yhx := hx.size
  gi_wp2_with fail
  obtain ⟨cd, hcd⟩ : ∃ cd, codeE (scaleE s) = cd := ⟨_, rfl⟩
  have HCD := Lib.hid hcd
  clear hcd
  first | refine wide_open ?_ | refine wide_open2 ?_
  refine (HVA.out _ (by (repeat' (first | with_reducible exact Below.refl _ _ | with_reducible assumption | with_reducible refine Below.drew ?_ | with_reducible refine below_drewN ?_ _ | with_reducible refine Below.setCell ?_ ?_ _ | with_reducible refine Below.alloc ?_ ?_ _ | omega | (simp; done) | (simp; omega))))).mono ?_
  rintro e w3 ⟨rfl, hb3⟩
  have hw3 : Below w.heap.size w w3 := stepH (by (repeat' (first | with_reducible exact Below.refl _ _ | with_reducible assumption | with_reducible refine Below.drew ?_ | with_reducible refine below_drewN ?_ _ | with_reducible refine Below.setCell ?_ ?_ _ | with_reducible refine Below.alloc ?_ ?_ _ | omega | (simp; done) | (simp; omega)))) hb3
  replace hx : Below w2.heap.size w2 w3 := stepH (by (repeat' (first | with_reducible exact Below.refl _ _ | with_reducible assumption | with_reducible refine Below.drew ?_ | with_reducible refine below_drewN ?_ _ | with_reducible refine Below.setCell ?_ ?_ _ | with_reducible refine Below.alloc ?_ ?_ _ | omega | (simp; done) | (simp; omega)))) hb3
  replace yhx := hx.size
  rw [HCD.out]
  replace S := keepH hb3 (blk_old S.out)
  replace St := keepH hb3 (blk_old St.out)
  replace R := keepH hb3 (blk_old R.out)
  have N := keepH hb3 (g := w2.heap.size) (blk_new rfl)
  have z3 := hw3.size
  clear hb3 hw2 z2
  clear cS lS lS1 lS2 cSt lSt lSt1 lSt2 cR lR lR1 lR2 fzR
  have cS := cellH S
  obtain ⟨lS, lS1, lS2⟩ := ltH S
  have cSt := cellH St
  obtain ⟨lSt, lSt1, lSt2⟩ := ltH St
  have cR := cellH R
  obtain ⟨lR, lR1, lR2⟩ := ltH R
  have fzR := frozH R
  have cN := cellH N
  obtain ⟨lN, lN1, lN2⟩ := ltH N
  gi_upto_if 31 with fail
  clear cS lS lS1 lS2 cSt lSt lSt1 lSt2 cR lR lR1 lR2 fzR cN lN lN1 lN2
  gi_cut [] from 32 (fun wx => Below w2.heap.size w2 wx ∧ Hid (wx.heap[w2.heap.size]? = some (.cells #[.int .i64 n0] 3 (0, 0))))
  case first =>
    as_aux_lemma =>
      cases hs : scaleE s
      · have HS := Lib.hid hs
        have hcd0 : cd = 0 := by rw [← HCD.out, hs]; rfl
        subst hcd0
        have HN1 : Hid (n0 = (topsL s 1).length + 1) := by show _ = _; rw [HN0.out]; unfold topsN; rw [if_pos hs]
        clear hs
        have cN := cellH N
        have fN := frozH N
        have lN := lt_of_H N
        gi_wp2_with fail
        gi_loopw [] (fun wr => ∃ (k : Nat), 1 ≤ k ∧ k ≤ s.length ∧ Hid ((topsL s 1).length + 1 = k + (topsL s k).length) ∧ Below w.heap.size w wr ∧ Below w2.heap.size w2 wr ∧ Hid (wr.heap[w2.heap.size]? = some (.cells #[.int .i64 k] 3 (0, 0)))) (fun wr => s.length - (intOf ((wr.cell? ⟨w2.heap.size, 0, none⟩).getD undef)).toNat)
        case atStart => exact ⟨1, Nat.le_refl _, (by obtain ⟨gs, e, _, _, h, _⟩ := scaleE_none HS.out; rw [e, List.length_map]; exact h), (by show _ = _; omega), by (repeat' (first | with_reducible exact Below.refl _ _ | with_reducible assumption | with_reducible refine Below.drew ?_ | with_reducible refine below_drewN ?_ _ | with_reducible refine Below.setCell ?_ ?_ _ | with_reducible refine Below.alloc ?_ ?_ _ | omega | (simp; done) | (simp; omega))), by (repeat' (first | with_reducible exact Below.refl _ _ | with_reducible assumption | with_reducible refine Below.drew ?_ | with_reducible refine below_drewN ?_ _ | with_reducible refine Below.setCell ?_ ?_ _ | with_reducible refine Below.alloc ?_ ?_ _ | omega | (simp; done) | (simp; omega))), setBox N.out _⟩
        case round =>
          clear S St R N cN fN lN
          obtain ⟨k, hk1, hkl, htl, hwr, hx1, N⟩ := hrel
          have zr := hwr.size
          have zx := hx1.size
          have HX1 := hx1
          have S := Lib.hid ((hx1.block _ (lt_of_H S3)).trans S3.out)
          have St := Lib.hid ((hx1.block _ (lt_of_H St3)).trans St3.out)
          have R := Lib.hid ((hx1.block _ (lt_of_H R3)).trans R3.out)
          have cN := cellH N
          have lN := lt_of_H N
          have cS := cellH S
          have lS := lt_of_H S3
          have i0 : (k : Int) ≤ (s.length : Int) := by omega
          by_cases hlt : k < s.length
          · obtain ⟨⟨n1, d1, n2, d2⟩, hb⟩ : ∃ b, s[k]? = some b := ⟨s[k], List.getElem?_eq_getElem hlt⟩
            obtain ⟨⟨a1, a2⟩, ⟨a3, a4⟩, _⟩ := HI.out _ (List.mem_of_getElem? hb)
            dsimp only at a1 a2 a3 a4
            obtain ⟨gr, off, hAe, hgB, k0, k1, _, _⟩ := cells4 (HL.out.below hwr (Nat.le_refl _)) hb
            subst hAe
            replace k0 : wr.cell? ⟨gr, off + k * 4, none⟩ = some (.int .i64 n1) := k0
            replace k1 : wr.cell? ⟨gr, off + k * 4 + 1, none⟩ = some (.int .i64 d1) := k1
            have x0 : wr.cell? ⟨w.heap.size, 0, none⟩ = some (.slice (some ⟨gr, off, none⟩) s.length c) := cellH S 0
            have x1 : wr.cell? ⟨w2.heap.size, 0, none⟩ = some (.int .i64 k) := cellH N 0
            have HAT9 := Lib.hid (fun w' (h : Below w.heap.size w w') => refAt15_any s (some ⟨gr, off, none⟩) c n1 d1 w' ((HL.out.below h (Nat.le_refl _)).more h.size) hm HI.out ⟨a1, a2⟩ ⟨a3, a4⟩)
            have HB := Lib.hid hb
            clear hb
            have i1 : (k : Int) < (s.length : Int) := by omega
            have i2 : (0 : Int) ≤ (k : Int) := by omega
            have i3 : ((k : Int)).toNat = k := by omega
            have lg := cell_lt k0
            cases ha : atI s n1 d1
            · skip
              rename_i ga
              have HAA := Lib.hid ha
              clear ha
              have HT := Lib.hid (topsL_no HB.out HAA.out)
              gi_wp2_with fail
              gi_upto_region 11 with fail
              refine (wpIn_wide (n := 3)).2 ?_
              go_upto_region 11 with fail
              go_cut [8, 9] from 32 to 49 (fun s8 s9 wx => (∃ c9 : Int, s9 = .int .i64 c9 ∧ Hid (c9 = 0 → False)) ∧ Below w.heap.size w wx ∧ Below w2.heap.size w2 wx ∧ Hid (wx.heap[w2.heap.size]? = some (.cells #[.int .i64 k] 3 (0, 0))))
              case first =>
                as_aux_lemma =>
                  clear cN cS
                  refine wp_onlyN ?_
                  refine wp_region_held_drew (S := fun w' => w'.cell? ⟨w.heap.size, 0, none⟩ = some (.slice (some ⟨gr, off, none⟩) s.length c) ∧ w'.cell? ⟨w2.heap.size, 0, none⟩ = some (.int .i64 k) ∧ w'.cell? ⟨gr, off + k * 4, none⟩ = some (.int .i64 n1) ∧ w'.cell? ⟨gr, off + k * 4 + 1, none⟩ = some (.int .i64 d1)) (by kernel_rfl) ?_ (fun hH0 => ?_)
                  · exact ⟨x0, x1, k0, k1⟩
                  refine wpAnyH_take (i := 0) (oi := { dst := some 37, op := Go.Op.load 22 (Go.Operand.tmp 2), type := 22, pos := "law.go:256", after := #[], guard := none }) (v := ?_) rfl (by kernel_rfl) (by kernel_rfl) (by kernel_rfl) (fun _ _ _ h => h) (Or.inl ⟨by rfl, ?_⟩) (by assumption) ?_
                  rotate_left
                  · intro wq hSw; (try dsimp only at hSw); go_simp; (try with_reducible rfl)
                  try simp only [Act.put, List.setIfInBounds_toArray, List.set_cons_zero, List.set_cons_succ]
                  refine wpAnyH_take (i := 1) (oi := { dst := some 38, op := Go.Op.load 22 (Go.Operand.tmp 2), type := 22, pos := "law.go:256", after := #[], guard := none }) (v := ?_) rfl (by kernel_rfl) (by kernel_rfl) (by kernel_rfl) (fun _ _ _ h => h) (Or.inl ⟨by rfl, ?_⟩) (by assumption) ?_
                  rotate_left
                  · intro wq hSw; (try dsimp only at hSw); go_simp; (try with_reducible rfl)
                  try simp only [Act.put, List.setIfInBounds_toArray, List.set_cons_zero, List.set_cons_succ]
                  refine wpAnyH_take (i := 2) (oi := { dst := some 39, op := Go.Op.load 3 (Go.Operand.tmp 7), type := 3, pos := "law.go:256", after := #[], guard := none }) (v := ?_) rfl (by kernel_rfl) (by kernel_rfl) (by kernel_rfl) (fun _ _ _ h => h) (Or.inl ⟨by rfl, ?_⟩) (by assumption) ?_
                  rotate_left
                  · intro wq hSw; (try dsimp only at hSw); go_simp; (try with_reducible rfl)
                  try simp only [Act.put, List.setIfInBounds_toArray, List.set_cons_zero, List.set_cons_succ]
                  refine wpAnyH_take (i := 3) (oi := { dst := some 40, op := Go.Op.indexAddr 22 (Go.Operand.tmp 38) (Go.Operand.tmp 39), type := 0, pos := "law.go:256", after := #[{ on := 1, ground := Go.Ground.data }, { on := 2, ground := Go.Ground.data }], guard := none }) (v := ?_) rfl (by kernel_rfl) (by kernel_rfl) (by kernel_rfl) (fun _ _ _ h => h) (Or.inl ⟨by rfl, ?_⟩) (by assumption) ?_
                  rotate_left
                  · intro wq hSw; (try dsimp only at hSw); go_simp; (try with_reducible rfl)
                  try simp only [Act.put, List.setIfInBounds_toArray, List.set_cons_zero, List.set_cons_succ]
                  refine wpAnyH_take (i := 4) (oi := { dst := some 41, op := Go.Op.fieldAddr 33 (Go.Operand.tmp 40) 0, type := 0, pos := "law.go:256", after := #[{ on := 3, ground := Go.Ground.data }], guard := none }) (v := ?_) rfl (by kernel_rfl) (by kernel_rfl) (by kernel_rfl) (fun _ _ _ h => h) (Or.inl ⟨by rfl, ?_⟩) (by assumption) ?_
                  rotate_left
                  · intro wq hSw; (try dsimp only at hSw); go_simp; (try with_reducible rfl)
                  try simp only [Act.put, List.setIfInBounds_toArray, List.set_cons_zero, List.set_cons_succ]
                  refine wpAnyH_take (i := 5) (oi := { dst := some 42, op := Go.Op.load 29 (Go.Operand.tmp 41), type := 29, pos := "law.go:256", after := #[{ on := 4, ground := Go.Ground.data }], guard := none }) (v := ?_) rfl (by kernel_rfl) (by kernel_rfl) (by kernel_rfl) (fun _ _ _ h => h) (Or.inl ⟨by rfl, ?_⟩) (by assumption) ?_
                  rotate_left
                  · intro wq hSw; (try dsimp only at hSw); go_simp; (try with_reducible rfl)
                  try simp only [Act.put, List.setIfInBounds_toArray, List.set_cons_zero, List.set_cons_succ]
                  refine wpAnyH_ready (rs := [6, 10]) (by kernel_rfl) (by simp) ?_
                  refine AllReadyH.cons (o := { dst := some 43, op := Go.Op.call { callee := Go.Callee.value (Go.Operand.func 10), args := #[Go.Operand.tmp 37, Go.Operand.tmp 42], argTypes := #[22, 29] }, type := 30, pos := "law.go:256", after := #[{ on := 0, ground := Go.Ground.data }, { on := 5, ground := Go.Ground.data }], guard := none }) rfl (fun K hK => ?_) ?_
                  · skip
                    go_simp
                    refine (HAT9.out _ (by (repeat' (first | with_reducible exact Below.refl _ _ | with_reducible assumption | with_reducible refine Below.drew ?_ | with_reducible refine below_drewN ?_ _ | with_reducible refine Below.setCell ?_ ?_ _ | with_reducible refine Below.alloc ?_ ?_ _ | omega | (simp; done) | (simp; omega))))).mono ?_
                    rintro e w21 ⟨⟨n', d', c9, rfl, hr⟩, hb21⟩
                    rw [HAA.out] at hr
                    have hc9 : Hid (c9 = 0 → False) := fun h => by obtain ⟨_, _, h9⟩ := hr; exact h9 h
                    clear hr
                    replace x0 : w21.cell? ⟨w.heap.size, 0, none⟩ = some (.slice (some ⟨gr, off, none⟩) s.length c) := cellOf hb21 (by first | exact x0 | exact cell_drew x0 | exact cell_alloc (cell_drew x0) | exact cell_alloc x0)
                    replace x1 : w21.cell? ⟨w2.heap.size, 0, none⟩ = some (.int .i64 k) := cellOf hb21 (by first | exact x1 | exact cell_drew x1 | exact cell_alloc (cell_drew x1) | exact cell_alloc x1)
                    replace k0 : w21.cell? ⟨gr, off + k * 4, none⟩ = some (.int .i64 n1) := cellOf hb21 (by first | exact k0 | exact cell_drew k0 | exact cell_alloc (cell_drew k0) | exact cell_alloc k0)
                    replace k1 : w21.cell? ⟨gr, off + k * 4 + 1, none⟩ = some (.int .i64 d1) := cellOf hb21 (by first | exact k1 | exact cell_drew k1 | exact cell_alloc (cell_drew k1) | exact cell_alloc k1)
                    have hw21 : Below w.heap.size w w21 := stepH (by (repeat' (first | with_reducible exact Below.refl _ _ | with_reducible assumption | with_reducible refine Below.drew ?_ | with_reducible refine below_drewN ?_ _ | with_reducible refine Below.setCell ?_ ?_ _ | with_reducible refine Below.alloc ?_ ?_ _ | omega | (simp; done) | (simp; omega)))) hb21
                    have hx21 : Below w2.heap.size w2 w21 := stepH (by (repeat' (first | with_reducible exact Below.refl _ _ | with_reducible assumption | with_reducible refine Below.drew ?_ | with_reducible refine below_drewN ?_ _ | with_reducible refine Below.setCell ?_ ?_ _ | with_reducible refine Below.alloc ?_ ?_ _ | omega | (simp; done) | (simp; omega)))) hb21
                    have zx21 := hx21.size
                    have zr21 := hb21.size
                    replace N := keepH hb21 (by first | with_reducible exact drew_old N.out | with_reducible exact blk_old (drew_old N.out) | with_reducible exact drew_old (blk_old N.out) | with_reducible exact blk_old N.out)
                    have lN := lt_of_H N
                    have lg := cell_lt k0
                    go_wp2_with fail
                    refine hK.out _ _ ?_ (fun hH1 => ?_)
                    · (try dsimp only); exact ⟨x0, x1, k0, k1⟩
                    clear hK K
                    clear hH0
                    try simp only [Act.put, List.setIfInBounds_toArray, List.set_cons_zero, List.set_cons_succ]
                    refine wpAnyH_take (i := 7) (oi := { dst := some 36, op := Go.Op.move (Go.Operand.tmp 43), type := 30, pos := "law.go:256", after := #[{ on := 6, ground := Go.Ground.data }], guard := none }) (v := ?_) rfl (by kernel_rfl) (by kernel_rfl) (by kernel_rfl) (fun _ _ _ h => h) (Or.inl ⟨by rfl, ?_⟩) (by assumption) ?_
                    rotate_left
                    · intro wq hSw; (try dsimp only at hSw); go_simp; (try with_reducible rfl)
                    try simp only [Act.put, List.setIfInBounds_toArray, List.set_cons_zero, List.set_cons_succ]
                    refine wpAnyH_take (i := 8) (oi := { dst := some 44, op := Go.Op.extract (Go.Operand.tmp 36) 0, type := 29, pos := "law.go:256", after := #[{ on := 7, ground := Go.Ground.data }], guard := none }) (v := ?_) rfl (by kernel_rfl) (by kernel_rfl) (by kernel_rfl) (fun _ _ _ h => h) (Or.inl ⟨by rfl, ?_⟩) (by assumption) ?_
                    rotate_left
                    · intro wq hSw; (try dsimp only at hSw); go_simp; (try with_reducible rfl)
                    try simp only [Act.put, List.setIfInBounds_toArray, List.set_cons_zero, List.set_cons_succ]
                    refine wpAnyH_take (i := 9) (oi := { dst := some 45, op := Go.Op.extract (Go.Operand.tmp 36) 1, type := 3, pos := "law.go:256", after := #[{ on := 7, ground := Go.Ground.data }, { on := 11, ground := Go.Ground.gcOnly Go.Departure.lateStores }], guard := none }) (v := ?_) rfl (by kernel_rfl) (by kernel_rfl) (by kernel_rfl) (fun _ _ _ h => h) (Or.inl ⟨by rfl, ?_⟩) (by assumption) ?_
                    rotate_left
                    · intro wq hSw; (try dsimp only at hSw); go_simp; (try with_reducible rfl)
                    try simp only [Act.put, List.setIfInBounds_toArray, List.set_cons_zero, List.set_cons_succ]
                    refine wpAnyH_ready (rs := [10]) (by kernel_rfl) (by simp) ?_
                    refine AllReadyH.cons (o := { dst := some 8, op := Go.Op.alloc 29, type := 0, pos := "law.go:256", after := #[], guard := none }) rfl (fun K hK => ?_) AllReadyH.nil
                    go_simp
                    refine hK.out _ _ ?_ (fun hH2 => ?_)
                    · (try dsimp only); exact ⟨(by first | exact cell_alloc x0 | exact cell_alloc (cell_drew x0)), (by first | exact cell_alloc x1 | exact cell_alloc (cell_drew x1)), (by first | exact cell_alloc k0 | exact cell_alloc (cell_drew k0)), (by first | exact cell_alloc k1 | exact cell_alloc (cell_drew k1))⟩
                    clear hK K
                    clear hH1
                    try simp only [Act.put, List.setIfInBounds_toArray, List.set_cons_zero, List.set_cons_succ]
                    refine wpAnyH_ready (rs := [11]) (by kernel_rfl) (by simp) ?_
                    refine AllReadyH.cons (o := { dst := none, op := Go.Op.store 29 (Go.Operand.tmp 8) (Go.Operand.tmp 44), type := 0, pos := "law.go:256", after := #[{ on := 10, ground := Go.Ground.data }, { on := 8, ground := Go.Ground.data }, { on := 6, ground := Go.Ground.chain }, { on := 0, ground := Go.Ground.phase }, { on := 1, ground := Go.Ground.phase }, { on := 2, ground := Go.Ground.phase }, { on := 3, ground := Go.Ground.phase }, { on := 4, ground := Go.Ground.phase }, { on := 5, ground := Go.Ground.phase }, { on := 6, ground := Go.Ground.phase }, { on := 7, ground := Go.Ground.phase }, { on := 8, ground := Go.Ground.phase }, { on := 9, ground := Go.Ground.textOnly Go.Departure.lateStores }, { on := 10, ground := Go.Ground.phase }], guard := none }) rfl (fun K hK => ?_) AllReadyH.nil
                    go_simp
                    refine hK.out _ _ ?_ (fun hH3 => ?_)
                    · (try dsimp only); exact ⟨(by repeat (first | exact x0 | refine cell_set ?_ (by first | assumption | (dsimp only; assumption) | (dsimp only; omega)) | refine cell_alloc ?_ | refine cell_drew ?_)), (by repeat (first | exact x1 | refine cell_set ?_ (by first | assumption | (dsimp only; assumption) | (dsimp only; omega)) | refine cell_alloc ?_ | refine cell_drew ?_)), (by repeat (first | exact k0 | refine cell_set ?_ (by first | assumption | (dsimp only; assumption) | (dsimp only; omega)) | refine cell_alloc ?_ | refine cell_drew ?_)), (by repeat (first | exact k1 | refine cell_set ?_ (by first | assumption | (dsimp only; assumption) | (dsimp only; omega)) | refine cell_alloc ?_ | refine cell_drew ?_))⟩
                    clear hK K
                    clear hH2
                    try simp only [Act.put, List.setIfInBounds_toArray, List.set_cons_zero, List.set_cons_succ]
                    refine wpAnyH_take (i := 12) (oi := { dst := some 9, op := Go.Op.assign (Go.Operand.tmp 45), type := 3, pos := "law.go:256", after := #[{ on := 9, ground := Go.Ground.data }, { on := 11, ground := Go.Ground.chain }, { on := 0, ground := Go.Ground.phase }, { on := 1, ground := Go.Ground.phase }, { on := 2, ground := Go.Ground.phase }, { on := 3, ground := Go.Ground.phase }, { on := 4, ground := Go.Ground.phase }, { on := 5, ground := Go.Ground.phase }, { on := 6, ground := Go.Ground.phase }, { on := 7, ground := Go.Ground.phase }, { on := 8, ground := Go.Ground.phase }, { on := 9, ground := Go.Ground.phase }, { on := 10, ground := Go.Ground.phase }, { on := 11, ground := Go.Ground.phase }], guard := none }) (v := ?_) rfl (by kernel_rfl) (by kernel_rfl) (by kernel_rfl) (fun _ _ _ h => h) (Or.inl ⟨by rfl, ?_⟩) (by assumption) ?_
                    rotate_left
                    · intro wq hSw; (try dsimp only at hSw); go_simp; (try with_reducible rfl)
                    try simp only [Act.put, List.setIfInBounds_toArray, List.set_cons_zero, List.set_cons_succ]
                    refine wpAnyH_done (by kernel_rfl) ?_ _
                    refine onlyN_normal ?_
                    go_wp2_with fail
                    go_meet
                    exact ⟨⟨_, rfl, hc9⟩, (by (repeat' (first | with_reducible exact Below.refl _ _ | with_reducible assumption | with_reducible refine Below.drew ?_ | with_reducible refine below_drewN ?_ _ | with_reducible refine Below.setCell ?_ ?_ _ | with_reducible refine Below.alloc ?_ ?_ _ | omega | (simp; done) | (simp; omega)))), (by (repeat' (first | with_reducible exact Below.refl _ _ | with_reducible assumption | with_reducible refine Below.drew ?_ | with_reducible refine below_drewN ?_ _ | with_reducible refine Below.setCell ?_ ?_ _ | with_reducible refine Below.alloc ?_ ?_ _ | omega | (simp; done) | (simp; omega)))), Lib.hid (by repeat' (first | with_reducible exact N.out | with_reducible refine setOther ?_ (by dsimp only; omega) | with_reducible refine blk_old ?_ | with_reducible refine drew_old ?_))⟩
                  refine AllReadyH.cons (o := { dst := some 8, op := Go.Op.alloc 29, type := 0, pos := "law.go:256", after := #[], guard := none }) rfl (fun K hK => ?_) AllReadyH.nil
                  go_simp
                  refine hK.out _ _ ?_ (fun hH1 => ?_)
                  · (try dsimp only); exact ⟨(by first | exact cell_alloc x0 | exact cell_alloc (cell_drew x0)), (by first | exact cell_alloc x1 | exact cell_alloc (cell_drew x1)), (by first | exact cell_alloc k0 | exact cell_alloc (cell_drew k0)), (by first | exact cell_alloc k1 | exact cell_alloc (cell_drew k1))⟩
                  clear hK K
                  clear hH0
                  try simp only [Act.put, List.setIfInBounds_toArray, List.set_cons_zero, List.set_cons_succ]
                  refine wpAnyH_ready (rs := [6]) (by kernel_rfl) (by simp) ?_
                  refine AllReadyH.cons (o := { dst := some 43, op := Go.Op.call { callee := Go.Callee.value (Go.Operand.func 10), args := #[Go.Operand.tmp 37, Go.Operand.tmp 42], argTypes := #[22, 29] }, type := 30, pos := "law.go:256", after := #[{ on := 0, ground := Go.Ground.data }, { on := 5, ground := Go.Ground.data }], guard := none }) rfl (fun K hK => ?_) AllReadyH.nil
                  go_simp
                  refine (HAT9.out _ (by (repeat' (first | with_reducible exact Below.refl _ _ | with_reducible assumption | with_reducible refine Below.drew ?_ | with_reducible refine below_drewN ?_ _ | with_reducible refine Below.setCell ?_ ?_ _ | with_reducible refine Below.alloc ?_ ?_ _ | omega | (simp; done) | (simp; omega))))).mono ?_
                  rintro e w21 ⟨⟨n', d', c9, rfl, hr⟩, hb21⟩
                  rw [HAA.out] at hr
                  have hc9 : Hid (c9 = 0 → False) := fun h => by obtain ⟨_, _, h9⟩ := hr; exact h9 h
                  clear hr
                  replace x0 : w21.cell? ⟨w.heap.size, 0, none⟩ = some (.slice (some ⟨gr, off, none⟩) s.length c) := cellOf hb21 (by first | exact x0 | exact cell_drew x0 | exact cell_alloc (cell_drew x0) | exact cell_alloc x0)
                  replace x1 : w21.cell? ⟨w2.heap.size, 0, none⟩ = some (.int .i64 k) := cellOf hb21 (by first | exact x1 | exact cell_drew x1 | exact cell_alloc (cell_drew x1) | exact cell_alloc x1)
                  replace k0 : w21.cell? ⟨gr, off + k * 4, none⟩ = some (.int .i64 n1) := cellOf hb21 (by first | exact k0 | exact cell_drew k0 | exact cell_alloc (cell_drew k0) | exact cell_alloc k0)
                  replace k1 : w21.cell? ⟨gr, off + k * 4 + 1, none⟩ = some (.int .i64 d1) := cellOf hb21 (by first | exact k1 | exact cell_drew k1 | exact cell_alloc (cell_drew k1) | exact cell_alloc k1)
                  have hw21 : Below w.heap.size w w21 := stepH (by (repeat' (first | with_reducible exact Below.refl _ _ | with_reducible assumption | with_reducible refine Below.drew ?_ | with_reducible refine below_drewN ?_ _ | with_reducible refine Below.setCell ?_ ?_ _ | with_reducible refine Below.alloc ?_ ?_ _ | omega | (simp; done) | (simp; omega)))) hb21
                  have hx21 : Below w2.heap.size w2 w21 := stepH (by (repeat' (first | with_reducible exact Below.refl _ _ | with_reducible assumption | with_reducible refine Below.drew ?_ | with_reducible refine below_drewN ?_ _ | with_reducible refine Below.setCell ?_ ?_ _ | with_reducible refine Below.alloc ?_ ?_ _ | omega | (simp; done) | (simp; omega)))) hb21
                  have zx21 := hx21.size
                  have zr21 := hb21.size
                  replace N := keepH hb21 (by first | with_reducible exact drew_old N.out | with_reducible exact blk_old (drew_old N.out) | with_reducible exact drew_old (blk_old N.out) | with_reducible exact blk_old N.out)
                  have NBk := keepH hb21 (by with_reducible first | exact blk_new rfl | exact drew_old (blk_new rfl))
                  have cNB := cellH NBk
                  have fNB := frozH NBk
                  have lNB := lt_of_H NBk
                  have lN := lt_of_H N
                  have lg := cell_lt k0
                  go_wp2_with fail
                  refine hK.out _ _ ?_ (fun hH2 => ?_)
                  · (try dsimp only); exact ⟨x0, x1, k0, k1⟩
                  clear hK K
                  clear hH1
                  try simp only [Act.put, List.setIfInBounds_toArray, List.set_cons_zero, List.set_cons_succ]
                  refine wpAnyH_take (i := 7) (oi := { dst := some 36, op := Go.Op.move (Go.Operand.tmp 43), type := 30, pos := "law.go:256", after := #[{ on := 6, ground := Go.Ground.data }], guard := none }) (v := ?_) rfl (by kernel_rfl) (by kernel_rfl) (by kernel_rfl) (fun _ _ _ h => h) (Or.inl ⟨by rfl, ?_⟩) (by assumption) ?_
                  rotate_left
                  · intro wq hSw; (try dsimp only at hSw); go_simp; (try with_reducible rfl)
                  try simp only [Act.put, List.setIfInBounds_toArray, List.set_cons_zero, List.set_cons_succ]
                  refine wpAnyH_take (i := 8) (oi := { dst := some 44, op := Go.Op.extract (Go.Operand.tmp 36) 0, type := 29, pos := "law.go:256", after := #[{ on := 7, ground := Go.Ground.data }], guard := none }) (v := ?_) rfl (by kernel_rfl) (by kernel_rfl) (by kernel_rfl) (fun _ _ _ h => h) (Or.inl ⟨by rfl, ?_⟩) (by assumption) ?_
                  rotate_left
                  · intro wq hSw; (try dsimp only at hSw); go_simp; (try with_reducible rfl)
                  try simp only [Act.put, List.setIfInBounds_toArray, List.set_cons_zero, List.set_cons_succ]
                  refine wpAnyH_take (i := 9) (oi := { dst := some 45, op := Go.Op.extract (Go.Operand.tmp 36) 1, type := 3, pos := "law.go:256", after := #[{ on := 7, ground := Go.Ground.data }, { on := 11, ground := Go.Ground.gcOnly Go.Departure.lateStores }], guard := none }) (v := ?_) rfl (by kernel_rfl) (by kernel_rfl) (by kernel_rfl) (fun _ _ _ h => h) (Or.inl ⟨by rfl, ?_⟩) (by assumption) ?_
                  rotate_left
                  · intro wq hSw; (try dsimp only at hSw); go_simp; (try with_reducible rfl)
                  try simp only [Act.put, List.setIfInBounds_toArray, List.set_cons_zero, List.set_cons_succ]
                  refine wpAnyH_ready (rs := [11]) (by kernel_rfl) (by simp) ?_
                  refine AllReadyH.cons (o := { dst := none, op := Go.Op.store 29 (Go.Operand.tmp 8) (Go.Operand.tmp 44), type := 0, pos := "law.go:256", after := #[{ on := 10, ground := Go.Ground.data }, { on := 8, ground := Go.Ground.data }, { on := 6, ground := Go.Ground.chain }, { on := 0, ground := Go.Ground.phase }, { on := 1, ground := Go.Ground.phase }, { on := 2, ground := Go.Ground.phase }, { on := 3, ground := Go.Ground.phase }, { on := 4, ground := Go.Ground.phase }, { on := 5, ground := Go.Ground.phase }, { on := 6, ground := Go.Ground.phase }, { on := 7, ground := Go.Ground.phase }, { on := 8, ground := Go.Ground.phase }, { on := 9, ground := Go.Ground.textOnly Go.Departure.lateStores }, { on := 10, ground := Go.Ground.phase }], guard := none }) rfl (fun K hK => ?_) AllReadyH.nil
                  go_simp
                  refine hK.out _ _ ?_ (fun hH3 => ?_)
                  · (try dsimp only); exact ⟨(by repeat (first | exact x0 | refine cell_set ?_ (by first | assumption | (dsimp only; assumption) | (dsimp only; omega)) | refine cell_alloc ?_ | refine cell_drew ?_)), (by repeat (first | exact x1 | refine cell_set ?_ (by first | assumption | (dsimp only; assumption) | (dsimp only; omega)) | refine cell_alloc ?_ | refine cell_drew ?_)), (by repeat (first | exact k0 | refine cell_set ?_ (by first | assumption | (dsimp only; assumption) | (dsimp only; omega)) | refine cell_alloc ?_ | refine cell_drew ?_)), (by repeat (first | exact k1 | refine cell_set ?_ (by first | assumption | (dsimp only; assumption) | (dsimp only; omega)) | refine cell_alloc ?_ | refine cell_drew ?_))⟩
                  clear hK K
                  clear hH2
                  try simp only [Act.put, List.setIfInBounds_toArray, List.set_cons_zero, List.set_cons_succ]
                  refine wpAnyH_take (i := 12) (oi := { dst := some 9, op := Go.Op.assign (Go.Operand.tmp 45), type := 3, pos := "law.go:256", after := #[{ on := 9, ground := Go.Ground.data }, { on := 11, ground := Go.Ground.chain }, { on := 0, ground := Go.Ground.phase }, { on := 1, ground := Go.Ground.phase }, { on := 2, ground := Go.Ground.phase }, { on := 3, ground := Go.Ground.phase }, { on := 4, ground := Go.Ground.phase }, { on := 5, ground := Go.Ground.phase }, { on := 6, ground := Go.Ground.phase }, { on := 7, ground := Go.Ground.phase }, { on := 8, ground := Go.Ground.phase }, { on := 9, ground := Go.Ground.phase }, { on := 10, ground := Go.Ground.phase }, { on := 11, ground := Go.Ground.phase }], guard := none }) (v := ?_) rfl (by kernel_rfl) (by kernel_rfl) (by kernel_rfl) (fun _ _ _ h => h) (Or.inl ⟨by rfl, ?_⟩) (by assumption) ?_
                  rotate_left
                  · intro wq hSw; (try dsimp only at hSw); go_simp; (try with_reducible rfl)
                  try simp only [Act.put, List.setIfInBounds_toArray, List.set_cons_zero, List.set_cons_succ]
                  refine wpAnyH_done (by kernel_rfl) ?_ _
                  refine onlyN_normal ?_
                  go_wp2_with fail
                  go_meet
                  exact ⟨⟨_, rfl, hc9⟩, (by (repeat' (first | with_reducible exact Below.refl _ _ | with_reducible assumption | with_reducible refine Below.drew ?_ | with_reducible refine below_drewN ?_ _ | with_reducible refine Below.setCell ?_ ?_ _ | with_reducible refine Below.alloc ?_ ?_ _ | omega | (simp; done) | (simp; omega)))), (by (repeat' (first | with_reducible exact Below.refl _ _ | with_reducible assumption | with_reducible refine Below.drew ?_ | with_reducible refine below_drewN ?_ _ | with_reducible refine Below.setCell ?_ ?_ _ | with_reducible refine Below.alloc ?_ ?_ _ | omega | (simp; done) | (simp; omega)))), Lib.hid (by repeat' (first | with_reducible exact N.out | with_reducible refine setOther ?_ (by dsimp only; omega) | with_reducible refine blk_old ?_ | with_reducible refine drew_old ?_))⟩
              case rest =>
                as_aux_lemma =>
                  clear N k0 k1 x0 cN cS
                  obtain ⟨h9, hw9, hx9, N⟩ := hcut
                  have cN := cellH N
                  have fN := frozH N
                  have zx9 := hx9.size
                  obtain ⟨c9, rfl, hc9⟩ := h9
                  have hcn : (c9 != 0) = true := bne_iff_ne.2 hc9.out
                  gi_wp2_with fail
                  gi_meet
                  have hk9 : n0 = k := by have h := htl.out; rw [HT.out, List.length_nil] at h; have := HN1.out; omega
                  rw [hk9]
                  exact ⟨hx9, N⟩
            · skip
              rename_i ga
              have HAA := Lib.hid ha
              clear ha
              have HT := Lib.hid (topsL_ok HB.out HAA.out)
              gi_wp2_with fail
              gi_upto_region 11 with fail
              refine (wpIn_wide (n := 3)).2 ?_
              go_upto_region 11 with fail
              go_cut [8, 9] from 32 to 49 (fun s8 s9 wx => s9 = .int .i64 0 ∧ Below w.heap.size w wx ∧ Below w2.heap.size w2 wx ∧ Hid (wx.heap[w2.heap.size]? = some (.cells #[.int .i64 k] 3 (0, 0))))
              case first =>
                as_aux_lemma =>
                  clear cN cS
                  refine wp_onlyN ?_
                  refine wp_region_held_drew (S := fun w' => w'.cell? ⟨w.heap.size, 0, none⟩ = some (.slice (some ⟨gr, off, none⟩) s.length c) ∧ w'.cell? ⟨w2.heap.size, 0, none⟩ = some (.int .i64 k) ∧ w'.cell? ⟨gr, off + k * 4, none⟩ = some (.int .i64 n1) ∧ w'.cell? ⟨gr, off + k * 4 + 1, none⟩ = some (.int .i64 d1)) (by kernel_rfl) ?_ (fun hH0 => ?_)
                  · exact ⟨x0, x1, k0, k1⟩
                  refine wpAnyH_take (i := 0) (oi := { dst := some 37, op := Go.Op.load 22 (Go.Operand.tmp 2), type := 22, pos := "law.go:256", after := #[], guard := none }) (v := ?_) rfl (by kernel_rfl) (by kernel_rfl) (by kernel_rfl) (fun _ _ _ h => h) (Or.inl ⟨by rfl, ?_⟩) (by assumption) ?_
                  rotate_left
                  · intro wq hSw; (try dsimp only at hSw); go_simp; (try with_reducible rfl)
                  try simp only [Act.put, List.setIfInBounds_toArray, List.set_cons_zero, List.set_cons_succ]
                  refine wpAnyH_take (i := 1) (oi := { dst := some 38, op := Go.Op.load 22 (Go.Operand.tmp 2), type := 22, pos := "law.go:256", after := #[], guard := none }) (v := ?_) rfl (by kernel_rfl) (by kernel_rfl) (by kernel_rfl) (fun _ _ _ h => h) (Or.inl ⟨by rfl, ?_⟩) (by assumption) ?_
                  rotate_left
                  · intro wq hSw; (try dsimp only at hSw); go_simp; (try with_reducible rfl)
                  try simp only [Act.put, List.setIfInBounds_toArray, List.set_cons_zero, List.set_cons_succ]
                  refine wpAnyH_take (i := 2) (oi := { dst := some 39, op := Go.Op.load 3 (Go.Operand.tmp 7), type := 3, pos := "law.go:256", after := #[], guard := none }) (v := ?_) rfl (by kernel_rfl) (by kernel_rfl) (by kernel_rfl) (fun _ _ _ h => h) (Or.inl ⟨by rfl, ?_⟩) (by assumption) ?_
                  rotate_left
                  · intro wq hSw; (try dsimp only at hSw); go_simp; (try with_reducible rfl)
                  try simp only [Act.put, List.setIfInBounds_toArray, List.set_cons_zero, List.set_cons_succ]
                  refine wpAnyH_take (i := 3) (oi := { dst := some 40, op := Go.Op.indexAddr 22 (Go.Operand.tmp 38) (Go.Operand.tmp 39), type := 0, pos := "law.go:256", after := #[{ on := 1, ground := Go.Ground.data }, { on := 2, ground := Go.Ground.data }], guard := none }) (v := ?_) rfl (by kernel_rfl) (by kernel_rfl) (by kernel_rfl) (fun _ _ _ h => h) (Or.inl ⟨by rfl, ?_⟩) (by assumption) ?_
                  rotate_left
                  · intro wq hSw; (try dsimp only at hSw); go_simp; (try with_reducible rfl)
                  try simp only [Act.put, List.setIfInBounds_toArray, List.set_cons_zero, List.set_cons_succ]
                  refine wpAnyH_take (i := 4) (oi := { dst := some 41, op := Go.Op.fieldAddr 33 (Go.Operand.tmp 40) 0, type := 0, pos := "law.go:256", after := #[{ on := 3, ground := Go.Ground.data }], guard := none }) (v := ?_) rfl (by kernel_rfl) (by kernel_rfl) (by kernel_rfl) (fun _ _ _ h => h) (Or.inl ⟨by rfl, ?_⟩) (by assumption) ?_
                  rotate_left
                  · intro wq hSw; (try dsimp only at hSw); go_simp; (try with_reducible rfl)
                  try simp only [Act.put, List.setIfInBounds_toArray, List.set_cons_zero, List.set_cons_succ]
                  refine wpAnyH_take (i := 5) (oi := { dst := some 42, op := Go.Op.load 29 (Go.Operand.tmp 41), type := 29, pos := "law.go:256", after := #[{ on := 4, ground := Go.Ground.data }], guard := none }) (v := ?_) rfl (by kernel_rfl) (by kernel_rfl) (by kernel_rfl) (fun _ _ _ h => h) (Or.inl ⟨by rfl, ?_⟩) (by assumption) ?_
                  rotate_left
                  · intro wq hSw; (try dsimp only at hSw); go_simp; (try with_reducible rfl)
                  try simp only [Act.put, List.setIfInBounds_toArray, List.set_cons_zero, List.set_cons_succ]
                  refine wpAnyH_ready (rs := [6, 10]) (by kernel_rfl) (by simp) ?_
                  refine AllReadyH.cons (o := { dst := some 43, op := Go.Op.call { callee := Go.Callee.value (Go.Operand.func 10), args := #[Go.Operand.tmp 37, Go.Operand.tmp 42], argTypes := #[22, 29] }, type := 30, pos := "law.go:256", after := #[{ on := 0, ground := Go.Ground.data }, { on := 5, ground := Go.Ground.data }], guard := none }) rfl (fun K hK => ?_) ?_
                  · skip
                    go_simp
                    refine (HAT9.out _ (by (repeat' (first | with_reducible exact Below.refl _ _ | with_reducible assumption | with_reducible refine Below.drew ?_ | with_reducible refine below_drewN ?_ _ | with_reducible refine Below.setCell ?_ ?_ _ | with_reducible refine Below.alloc ?_ ?_ _ | omega | (simp; done) | (simp; omega))))).mono ?_
                    rintro e w21 ⟨⟨n', d', c9, rfl, hr⟩, hb21⟩
                    rw [HAA.out] at hr
                    obtain ⟨rfl, rfl, rfl⟩ := hr
                    replace x0 : w21.cell? ⟨w.heap.size, 0, none⟩ = some (.slice (some ⟨gr, off, none⟩) s.length c) := cellOf hb21 (by first | exact x0 | exact cell_drew x0 | exact cell_alloc (cell_drew x0) | exact cell_alloc x0)
                    replace x1 : w21.cell? ⟨w2.heap.size, 0, none⟩ = some (.int .i64 k) := cellOf hb21 (by first | exact x1 | exact cell_drew x1 | exact cell_alloc (cell_drew x1) | exact cell_alloc x1)
                    replace k0 : w21.cell? ⟨gr, off + k * 4, none⟩ = some (.int .i64 n1) := cellOf hb21 (by first | exact k0 | exact cell_drew k0 | exact cell_alloc (cell_drew k0) | exact cell_alloc k0)
                    replace k1 : w21.cell? ⟨gr, off + k * 4 + 1, none⟩ = some (.int .i64 d1) := cellOf hb21 (by first | exact k1 | exact cell_drew k1 | exact cell_alloc (cell_drew k1) | exact cell_alloc k1)
                    have hw21 : Below w.heap.size w w21 := stepH (by (repeat' (first | with_reducible exact Below.refl _ _ | with_reducible assumption | with_reducible refine Below.drew ?_ | with_reducible refine below_drewN ?_ _ | with_reducible refine Below.setCell ?_ ?_ _ | with_reducible refine Below.alloc ?_ ?_ _ | omega | (simp; done) | (simp; omega)))) hb21
                    have hx21 : Below w2.heap.size w2 w21 := stepH (by (repeat' (first | with_reducible exact Below.refl _ _ | with_reducible assumption | with_reducible refine Below.drew ?_ | with_reducible refine below_drewN ?_ _ | with_reducible refine Below.setCell ?_ ?_ _ | with_reducible refine Below.alloc ?_ ?_ _ | omega | (simp; done) | (simp; omega)))) hb21
                    have zx21 := hx21.size
                    have zr21 := hb21.size
                    replace N := keepH hb21 (by first | with_reducible exact drew_old N.out | with_reducible exact blk_old (drew_old N.out) | with_reducible exact drew_old (blk_old N.out) | with_reducible exact blk_old N.out)
                    have lN := lt_of_H N
                    have lg := cell_lt k0
                    go_wp2_with fail
                    refine hK.out _ _ ?_ (fun hH1 => ?_)
                    · (try dsimp only); exact ⟨x0, x1, k0, k1⟩
                    clear hK K
                    clear hH0
                    try simp only [Act.put, List.setIfInBounds_toArray, List.set_cons_zero, List.set_cons_succ]
                    refine wpAnyH_take (i := 7) (oi := { dst := some 36, op := Go.Op.move (Go.Operand.tmp 43), type := 30, pos := "law.go:256", after := #[{ on := 6, ground := Go.Ground.data }], guard := none }) (v := ?_) rfl (by kernel_rfl) (by kernel_rfl) (by kernel_rfl) (fun _ _ _ h => h) (Or.inl ⟨by rfl, ?_⟩) (by assumption) ?_
                    rotate_left
                    · intro wq hSw; (try dsimp only at hSw); go_simp; (try with_reducible rfl)
                    try simp only [Act.put, List.setIfInBounds_toArray, List.set_cons_zero, List.set_cons_succ]
                    refine wpAnyH_take (i := 8) (oi := { dst := some 44, op := Go.Op.extract (Go.Operand.tmp 36) 0, type := 29, pos := "law.go:256", after := #[{ on := 7, ground := Go.Ground.data }], guard := none }) (v := ?_) rfl (by kernel_rfl) (by kernel_rfl) (by kernel_rfl) (fun _ _ _ h => h) (Or.inl ⟨by rfl, ?_⟩) (by assumption) ?_
                    rotate_left
                    · intro wq hSw; (try dsimp only at hSw); go_simp; (try with_reducible rfl)
                    try simp only [Act.put, List.setIfInBounds_toArray, List.set_cons_zero, List.set_cons_succ]
                    refine wpAnyH_take (i := 9) (oi := { dst := some 45, op := Go.Op.extract (Go.Operand.tmp 36) 1, type := 3, pos := "law.go:256", after := #[{ on := 7, ground := Go.Ground.data }, { on := 11, ground := Go.Ground.gcOnly Go.Departure.lateStores }], guard := none }) (v := ?_) rfl (by kernel_rfl) (by kernel_rfl) (by kernel_rfl) (fun _ _ _ h => h) (Or.inl ⟨by rfl, ?_⟩) (by assumption) ?_
                    rotate_left
                    · intro wq hSw; (try dsimp only at hSw); go_simp; (try with_reducible rfl)
                    try simp only [Act.put, List.setIfInBounds_toArray, List.set_cons_zero, List.set_cons_succ]
                    refine wpAnyH_ready (rs := [10]) (by kernel_rfl) (by simp) ?_
                    refine AllReadyH.cons (o := { dst := some 8, op := Go.Op.alloc 29, type := 0, pos := "law.go:256", after := #[], guard := none }) rfl (fun K hK => ?_) AllReadyH.nil
                    go_simp
                    refine hK.out _ _ ?_ (fun hH2 => ?_)
                    · (try dsimp only); exact ⟨(by first | exact cell_alloc x0 | exact cell_alloc (cell_drew x0)), (by first | exact cell_alloc x1 | exact cell_alloc (cell_drew x1)), (by first | exact cell_alloc k0 | exact cell_alloc (cell_drew k0)), (by first | exact cell_alloc k1 | exact cell_alloc (cell_drew k1))⟩
                    clear hK K
                    clear hH1
                    try simp only [Act.put, List.setIfInBounds_toArray, List.set_cons_zero, List.set_cons_succ]
                    refine wpAnyH_ready (rs := [11]) (by kernel_rfl) (by simp) ?_
                    refine AllReadyH.cons (o := { dst := none, op := Go.Op.store 29 (Go.Operand.tmp 8) (Go.Operand.tmp 44), type := 0, pos := "law.go:256", after := #[{ on := 10, ground := Go.Ground.data }, { on := 8, ground := Go.Ground.data }, { on := 6, ground := Go.Ground.chain }, { on := 0, ground := Go.Ground.phase }, { on := 1, ground := Go.Ground.phase }, { on := 2, ground := Go.Ground.phase }, { on := 3, ground := Go.Ground.phase }, { on := 4, ground := Go.Ground.phase }, { on := 5, ground := Go.Ground.phase }, { on := 6, ground := Go.Ground.phase }, { on := 7, ground := Go.Ground.phase }, { on := 8, ground := Go.Ground.phase }, { on := 9, ground := Go.Ground.textOnly Go.Departure.lateStores }, { on := 10, ground := Go.Ground.phase }], guard := none }) rfl (fun K hK => ?_) AllReadyH.nil
                    go_simp
                    refine hK.out _ _ ?_ (fun hH3 => ?_)
                    · (try dsimp only); exact ⟨(by repeat (first | exact x0 | refine cell_set ?_ (by first | assumption | (dsimp only; assumption) | (dsimp only; omega)) | refine cell_alloc ?_ | refine cell_drew ?_)), (by repeat (first | exact x1 | refine cell_set ?_ (by first | assumption | (dsimp only; assumption) | (dsimp only; omega)) | refine cell_alloc ?_ | refine cell_drew ?_)), (by repeat (first | exact k0 | refine cell_set ?_ (by first | assumption | (dsimp only; assumption) | (dsimp only; omega)) | refine cell_alloc ?_ | refine cell_drew ?_)), (by repeat (first | exact k1 | refine cell_set ?_ (by first | assumption | (dsimp only; assumption) | (dsimp only; omega)) | refine cell_alloc ?_ | refine cell_drew ?_))⟩
                    clear hK K
                    clear hH2
                    try simp only [Act.put, List.setIfInBounds_toArray, List.set_cons_zero, List.set_cons_succ]
                    refine wpAnyH_take (i := 12) (oi := { dst := some 9, op := Go.Op.assign (Go.Operand.tmp 45), type := 3, pos := "law.go:256", after := #[{ on := 9, ground := Go.Ground.data }, { on := 11, ground := Go.Ground.chain }, { on := 0, ground := Go.Ground.phase }, { on := 1, ground := Go.Ground.phase }, { on := 2, ground := Go.Ground.phase }, { on := 3, ground := Go.Ground.phase }, { on := 4, ground := Go.Ground.phase }, { on := 5, ground := Go.Ground.phase }, { on := 6, ground := Go.Ground.phase }, { on := 7, ground := Go.Ground.phase }, { on := 8, ground := Go.Ground.phase }, { on := 9, ground := Go.Ground.phase }, { on := 10, ground := Go.Ground.phase }, { on := 11, ground := Go.Ground.phase }], guard := none }) (v := ?_) rfl (by kernel_rfl) (by kernel_rfl) (by kernel_rfl) (fun _ _ _ h => h) (Or.inl ⟨by rfl, ?_⟩) (by assumption) ?_
                    rotate_left
                    · intro wq hSw; (try dsimp only at hSw); go_simp; (try with_reducible rfl)
                    try simp only [Act.put, List.setIfInBounds_toArray, List.set_cons_zero, List.set_cons_succ]
                    refine wpAnyH_done (by kernel_rfl) ?_ _
                    refine onlyN_normal ?_
                    go_wp2_with fail
                    go_meet
                    exact ⟨rfl, (by (repeat' (first | with_reducible exact Below.refl _ _ | with_reducible assumption | with_reducible refine Below.drew ?_ | with_reducible refine below_drewN ?_ _ | with_reducible refine Below.setCell ?_ ?_ _ | with_reducible refine Below.alloc ?_ ?_ _ | omega | (simp; done) | (simp; omega)))), (by (repeat' (first | with_reducible exact Below.refl _ _ | with_reducible assumption | with_reducible refine Below.drew ?_ | with_reducible refine below_drewN ?_ _ | with_reducible refine Below.setCell ?_ ?_ _ | with_reducible refine Below.alloc ?_ ?_ _ | omega | (simp; done) | (simp; omega)))), Lib.hid (by repeat' (first | with_reducible exact N.out | with_reducible refine setOther ?_ (by dsimp only; omega) | with_reducible refine blk_old ?_ | with_reducible refine drew_old ?_))⟩
                  refine AllReadyH.cons (o := { dst := some 8, op := Go.Op.alloc 29, type := 0, pos := "law.go:256", after := #[], guard := none }) rfl (fun K hK => ?_) AllReadyH.nil
                  go_simp
                  refine hK.out _ _ ?_ (fun hH1 => ?_)
                  · (try dsimp only); exact ⟨(by first | exact cell_alloc x0 | exact cell_alloc (cell_drew x0)), (by first | exact cell_alloc x1 | exact cell_alloc (cell_drew x1)), (by first | exact cell_alloc k0 | exact cell_alloc (cell_drew k0)), (by first | exact cell_alloc k1 | exact cell_alloc (cell_drew k1))⟩
                  clear hK K
                  clear hH0
                  try simp only [Act.put, List.setIfInBounds_toArray, List.set_cons_zero, List.set_cons_succ]
                  refine wpAnyH_ready (rs := [6]) (by kernel_rfl) (by simp) ?_
                  refine AllReadyH.cons (o := { dst := some 43, op := Go.Op.call { callee := Go.Callee.value (Go.Operand.func 10), args := #[Go.Operand.tmp 37, Go.Operand.tmp 42], argTypes := #[22, 29] }, type := 30, pos := "law.go:256", after := #[{ on := 0, ground := Go.Ground.data }, { on := 5, ground := Go.Ground.data }], guard := none }) rfl (fun K hK => ?_) AllReadyH.nil
                  go_simp
                  refine (HAT9.out _ (by (repeat' (first | with_reducible exact Below.refl _ _ | with_reducible assumption | with_reducible refine Below.drew ?_ | with_reducible refine below_drewN ?_ _ | with_reducible refine Below.setCell ?_ ?_ _ | with_reducible refine Below.alloc ?_ ?_ _ | omega | (simp; done) | (simp; omega))))).mono ?_
                  rintro e w21 ⟨⟨n', d', c9, rfl, hr⟩, hb21⟩
                  rw [HAA.out] at hr
                  obtain ⟨rfl, rfl, rfl⟩ := hr
                  replace x0 : w21.cell? ⟨w.heap.size, 0, none⟩ = some (.slice (some ⟨gr, off, none⟩) s.length c) := cellOf hb21 (by first | exact x0 | exact cell_drew x0 | exact cell_alloc (cell_drew x0) | exact cell_alloc x0)
                  replace x1 : w21.cell? ⟨w2.heap.size, 0, none⟩ = some (.int .i64 k) := cellOf hb21 (by first | exact x1 | exact cell_drew x1 | exact cell_alloc (cell_drew x1) | exact cell_alloc x1)
                  replace k0 : w21.cell? ⟨gr, off + k * 4, none⟩ = some (.int .i64 n1) := cellOf hb21 (by first | exact k0 | exact cell_drew k0 | exact cell_alloc (cell_drew k0) | exact cell_alloc k0)
                  replace k1 : w21.cell? ⟨gr, off + k * 4 + 1, none⟩ = some (.int .i64 d1) := cellOf hb21 (by first | exact k1 | exact cell_drew k1 | exact cell_alloc (cell_drew k1) | exact cell_alloc k1)
                  have hw21 : Below w.heap.size w w21 := stepH (by (repeat' (first | with_reducible exact Below.refl _ _ | with_reducible assumption | with_reducible refine Below.drew ?_ | with_reducible refine below_drewN ?_ _ | with_reducible refine Below.setCell ?_ ?_ _ | with_reducible refine Below.alloc ?_ ?_ _ | omega | (simp; done) | (simp; omega)))) hb21
                  have hx21 : Below w2.heap.size w2 w21 := stepH (by (repeat' (first | with_reducible exact Below.refl _ _ | with_reducible assumption | with_reducible refine Below.drew ?_ | with_reducible refine below_drewN ?_ _ | with_reducible refine Below.setCell ?_ ?_ _ | with_reducible refine Below.alloc ?_ ?_ _ | omega | (simp; done) | (simp; omega)))) hb21
                  have zx21 := hx21.size
                  have zr21 := hb21.size
                  replace N := keepH hb21 (by first | with_reducible exact drew_old N.out | with_reducible exact blk_old (drew_old N.out) | with_reducible exact drew_old (blk_old N.out) | with_reducible exact blk_old N.out)
                  have NBk := keepH hb21 (by with_reducible first | exact blk_new rfl | exact drew_old (blk_new rfl))
                  have cNB := cellH NBk
                  have fNB := frozH NBk
                  have lNB := lt_of_H NBk
                  have lN := lt_of_H N
                  have lg := cell_lt k0
                  go_wp2_with fail
                  refine hK.out _ _ ?_ (fun hH2 => ?_)
                  · (try dsimp only); exact ⟨x0, x1, k0, k1⟩
                  clear hK K
                  clear hH1
                  try simp only [Act.put, List.setIfInBounds_toArray, List.set_cons_zero, List.set_cons_succ]
                  refine wpAnyH_take (i := 7) (oi := { dst := some 36, op := Go.Op.move (Go.Operand.tmp 43), type := 30, pos := "law.go:256", after := #[{ on := 6, ground := Go.Ground.data }], guard := none }) (v := ?_) rfl (by kernel_rfl) (by kernel_rfl) (by kernel_rfl) (fun _ _ _ h => h) (Or.inl ⟨by rfl, ?_⟩) (by assumption) ?_
                  rotate_left
                  · intro wq hSw; (try dsimp only at hSw); go_simp; (try with_reducible rfl)
                  try simp only [Act.put, List.setIfInBounds_toArray, List.set_cons_zero, List.set_cons_succ]
                  refine wpAnyH_take (i := 8) (oi := { dst := some 44, op := Go.Op.extract (Go.Operand.tmp 36) 0, type := 29, pos := "law.go:256", after := #[{ on := 7, ground := Go.Ground.data }], guard := none }) (v := ?_) rfl (by kernel_rfl) (by kernel_rfl) (by kernel_rfl) (fun _ _ _ h => h) (Or.inl ⟨by rfl, ?_⟩) (by assumption) ?_
                  rotate_left
                  · intro wq hSw; (try dsimp only at hSw); go_simp; (try with_reducible rfl)
                  try simp only [Act.put, List.setIfInBounds_toArray, List.set_cons_zero, List.set_cons_succ]
                  refine wpAnyH_take (i := 9) (oi := { dst := some 45, op := Go.Op.extract (Go.Operand.tmp 36) 1, type := 3, pos := "law.go:256", after := #[{ on := 7, ground := Go.Ground.data }, { on := 11, ground := Go.Ground.gcOnly Go.Departure.lateStores }], guard := none }) (v := ?_) rfl (by kernel_rfl) (by kernel_rfl) (by kernel_rfl) (fun _ _ _ h => h) (Or.inl ⟨by rfl, ?_⟩) (by assumption) ?_
                  rotate_left
                  · intro wq hSw; (try dsimp only at hSw); go_simp; (try with_reducible rfl)
                  try simp only [Act.put, List.setIfInBounds_toArray, List.set_cons_zero, List.set_cons_succ]
                  refine wpAnyH_ready (rs := [11]) (by kernel_rfl) (by simp) ?_
                  refine AllReadyH.cons (o := { dst := none, op := Go.Op.store 29 (Go.Operand.tmp 8) (Go.Operand.tmp 44), type := 0, pos := "law.go:256", after := #[{ on := 10, ground := Go.Ground.data }, { on := 8, ground := Go.Ground.data }, { on := 6, ground := Go.Ground.chain }, { on := 0, ground := Go.Ground.phase }, { on := 1, ground := Go.Ground.phase }, { on := 2, ground := Go.Ground.phase }, { on := 3, ground := Go.Ground.phase }, { on := 4, ground := Go.Ground.phase }, { on := 5, ground := Go.Ground.phase }, { on := 6, ground := Go.Ground.phase }, { on := 7, ground := Go.Ground.phase }, { on := 8, ground := Go.Ground.phase }, { on := 9, ground := Go.Ground.textOnly Go.Departure.lateStores }, { on := 10, ground := Go.Ground.phase }], guard := none }) rfl (fun K hK => ?_) AllReadyH.nil
                  go_simp
                  refine hK.out _ _ ?_ (fun hH3 => ?_)
                  · (try dsimp only); exact ⟨(by repeat (first | exact x0 | refine cell_set ?_ (by first | assumption | (dsimp only; assumption) | (dsimp only; omega)) | refine cell_alloc ?_ | refine cell_drew ?_)), (by repeat (first | exact x1 | refine cell_set ?_ (by first | assumption | (dsimp only; assumption) | (dsimp only; omega)) | refine cell_alloc ?_ | refine cell_drew ?_)), (by repeat (first | exact k0 | refine cell_set ?_ (by first | assumption | (dsimp only; assumption) | (dsimp only; omega)) | refine cell_alloc ?_ | refine cell_drew ?_)), (by repeat (first | exact k1 | refine cell_set ?_ (by first | assumption | (dsimp only; assumption) | (dsimp only; omega)) | refine cell_alloc ?_ | refine cell_drew ?_))⟩
                  clear hK K
                  clear hH2
                  try simp only [Act.put, List.setIfInBounds_toArray, List.set_cons_zero, List.set_cons_succ]
                  refine wpAnyH_take (i := 12) (oi := { dst := some 9, op := Go.Op.assign (Go.Operand.tmp 45), type := 3, pos := "law.go:256", after := #[{ on := 9, ground := Go.Ground.data }, { on := 11, ground := Go.Ground.chain }, { on := 0, ground := Go.Ground.phase }, { on := 1, ground := Go.Ground.phase }, { on := 2, ground := Go.Ground.phase }, { on := 3, ground := Go.Ground.phase }, { on := 4, ground := Go.Ground.phase }, { on := 5, ground := Go.Ground.phase }, { on := 6, ground := Go.Ground.phase }, { on := 7, ground := Go.Ground.phase }, { on := 8, ground := Go.Ground.phase }, { on := 9, ground := Go.Ground.phase }, { on := 10, ground := Go.Ground.phase }, { on := 11, ground := Go.Ground.phase }], guard := none }) (v := ?_) rfl (by kernel_rfl) (by kernel_rfl) (by kernel_rfl) (fun _ _ _ h => h) (Or.inl ⟨by rfl, ?_⟩) (by assumption) ?_
                  rotate_left
                  · intro wq hSw; (try dsimp only at hSw); go_simp; (try with_reducible rfl)
                  try simp only [Act.put, List.setIfInBounds_toArray, List.set_cons_zero, List.set_cons_succ]
                  refine wpAnyH_done (by kernel_rfl) ?_ _
                  refine onlyN_normal ?_
                  go_wp2_with fail
                  go_meet
                  exact ⟨rfl, (by (repeat' (first | with_reducible exact Below.refl _ _ | with_reducible assumption | with_reducible refine Below.drew ?_ | with_reducible refine below_drewN ?_ _ | with_reducible refine Below.setCell ?_ ?_ _ | with_reducible refine Below.alloc ?_ ?_ _ | omega | (simp; done) | (simp; omega)))), (by (repeat' (first | with_reducible exact Below.refl _ _ | with_reducible assumption | with_reducible refine Below.drew ?_ | with_reducible refine below_drewN ?_ _ | with_reducible refine Below.setCell ?_ ?_ _ | with_reducible refine Below.alloc ?_ ?_ _ | omega | (simp; done) | (simp; omega)))), Lib.hid (by repeat' (first | with_reducible exact N.out | with_reducible refine setOther ?_ (by dsimp only; omega) | with_reducible refine blk_old ?_ | with_reducible refine drew_old ?_))⟩
              case rest =>
                as_aux_lemma =>
                  clear N k0 k1 x0 cN cS
                  obtain ⟨h9, hw9, hx9, N⟩ := hcut
                  have cN := cellH N
                  have fN := frozH N
                  have zx9 := hx9.size
                  obtain rfl := h9
                  gi_wp2_with fail
                  go_roundw
                  case rel => (repeat apply Exists.intro); exact ⟨⟨k + 1, by omega, by omega, (by show _ = _; have h := htl.out; rw [HT.out, List.length_cons] at h; omega), by (repeat' (first | with_reducible exact Below.refl _ _ | with_reducible assumption | with_reducible refine Below.drew ?_ | with_reducible refine below_drewN ?_ _ | with_reducible refine Below.setCell ?_ ?_ _ | with_reducible refine Below.alloc ?_ ?_ _ | omega | (simp; done) | (simp; omega))), by (repeat' (first | with_reducible exact Below.refl _ _ | with_reducible assumption | with_reducible refine Below.drew ?_ | with_reducible refine below_drewN ?_ _ | with_reducible refine Below.setCell ?_ ?_ _ | with_reducible refine Below.alloc ?_ ?_ _ | omega | (simp; done) | (simp; omega))), setBox N.out _⟩, rfl⟩
                  case measure => have hq : (wc.setCell ⟨w2.heap.size, 0, none⟩ (.int .i64 ((k : Int) + 1))).cell? ⟨w2.heap.size, 0, none⟩ = some (.int .i64 ((k : Int) + 1)) := cellH (Lib.hid (setBox N.out (.int .i64 ((k : Int) + 1)))) 0; rw [x1, hq]; simp only [intOf, Option.getD_some]; omega
          · have hk9 : n0 = k := by have h := htl.out; rw [topsL_end (Nat.le_of_not_lt hlt), List.length_nil] at h; have := HN1.out; omega
            have i1 : ¬ (k : Int) < (s.length : Int) := by omega
            gi_wp2_with fail
            gi_meet
            rw [hk9]
            exact ⟨hx1, N⟩
      · rename_i g0
        have hcd0 : (cd == 0) = false := by
          rw [beq_eq_false_iff_ne, ← HCD.out, hs]
          exact codeE_ne
        have hn00 : n0 = 0 := by rw [HN0.out]; unfold topsN; rw [if_neg (by rw [hs]; simp)]
        have cN := cellH N
        clear hs
        gi_wp2_with fail
        gi_meet
        rw [hn00]
        exact ⟨by (repeat' (first | with_reducible exact Below.refl _ _ | with_reducible assumption | with_reducible refine Below.drew ?_ | with_reducible refine below_drewN ?_ _ | with_reducible refine Below.setCell ?_ ?_ _ | with_reducible refine Below.alloc ?_ ?_ _ | omega | (simp; done) | (simp; omega))), N⟩
  case rest =>
    as_aux_lemma =>
      obtain ⟨hx4, N⟩ := hcut
      obtain ⟨w5, rfl⟩ : ∃ x : World, x = wc := ⟨_, rfl⟩
      have hw5 : Below w.heap.size w w5 := h3w.trans (hx4.mono zh3)
      have z5 := hw5.size
      have zx5 := hx4.size
      have S := Lib.hid ((hx4.block _ (lt_of_H S3)).trans S3.out)
      have St := Lib.hid ((hx4.block _ (lt_of_H St3)).trans St3.out)
      have R := Lib.hid ((hx4.block _ (lt_of_H R3)).trans R3.out)
      have BX := Lib.hid ((hx4.block _ hlbx).trans HBOX.out)
      have hlS := lt_of_H S3
      have hlSt := lt_of_H St3
      have hlR := lt_of_H R3
      obtain ⟨TL, hTL⟩ : ∃ n, (topsL s 1).length = n := ⟨_, rfl⟩
      have HN9 : Hid (n0 = TL + 1 ∨ (n0 = 0 ∧ TL = 0)) := by show _ ∨ _; rw [HN0.out]; exact topsN_eq hTL
      have HTL := Lib.hid hTL
      have hTLb : TL ≤ 200 := by have := topsL_len s 1; omega
      clear hTL HN0 HCD HVA HTO S3 St3 R3
      gi_wp2_with fail
      have RB : Hid ((w5.alloc (.cells #[.int .i64 0] 3)).heap[w5.heap.size]? = some (.cells #[.int .i64 0] 3 (0, 0))) := blk_new rfl
      have St6 := Lib.hid (blk_old (o := .cells #[.int .i64 0] 3) St.out)
      have R6 := Lib.hid (blk_old (o := .cells #[.int .i64 0] 3) R.out)
      have S6 := Lib.hid (blk_old (o := .cells #[.int .i64 0] 3) S.out)
      have N6 := Lib.hid (blk_old (o := .cells #[.int .i64 0] 3) N.out)
      have BX6 := Lib.hid (blk_old (o := .cells #[.int .i64 0] 3) BX.out)
      have hw6 : Below w.heap.size w (w5.alloc (.cells #[.int .i64 0] 3)) := by (repeat' (first | with_reducible exact Below.refl _ _ | with_reducible assumption | with_reducible refine Below.drew ?_ | with_reducible refine below_drewN ?_ _ | with_reducible refine Below.setCell ?_ ?_ _ | with_reducible refine Below.alloc ?_ ?_ _ | omega | (simp; done) | (simp; omega)))
      have hx6 : Below w2.heap.size w2 (w5.alloc (.cells #[.int .i64 0] 3)) := by (repeat' (first | with_reducible exact Below.refl _ _ | with_reducible assumption | with_reducible refine Below.drew ?_ | with_reducible refine below_drewN ?_ _ | with_reducible refine Below.setCell ?_ ?_ _ | with_reducible refine Below.alloc ?_ ?_ _ | omega | (simp; done) | (simp; omega)))
      have hu6 : w5.heap.size < (w5.alloc (.cells #[.int .i64 0] 3)).heap.size := by simp
      obtain ⟨rb, hrb⟩ : ∃ rb, w5.heap.size = rb := ⟨_, rfl⟩
      have hlN := lt_of_H N
      clear St R S N BX hw5 hx4
      generalize (w5.alloc (.cells #[.int .i64 0] 3)) = w6 at *
      rw [hrb] at RB hu6 z5 zx5 hlN ⊢
      clear hrb
      have cRB := cellH RB
      refine wpIn_loop_rounds 3 ?_
      rw [roundsIn_succ]
      gi_wp2_with fail
      have IB7 : Hid ((w6.alloc (.cells #[.int .i64 0] 3)).heap[w6.heap.size]? = some (.cells #[.int .i64 0] 3 (0, 0))) := blk_new rfl
      have St7 := Lib.hid (blk_old (o := .cells #[.int .i64 0] 3) St6.out)
      have R7 := Lib.hid (blk_old (o := .cells #[.int .i64 0] 3) R6.out)
      have S7 := Lib.hid (blk_old (o := .cells #[.int .i64 0] 3) S6.out)
      have N7 := Lib.hid (blk_old (o := .cells #[.int .i64 0] 3) N6.out)
      have BX7 := Lib.hid (blk_old (o := .cells #[.int .i64 0] 3) BX6.out)
      have RB7 := Lib.hid (blk_old (o := .cells #[.int .i64 0] 3) RB.out)
      have zw6 := hw6.size
      have zx6 := hx6.size
      have hw7 : Below w.heap.size w (w6.alloc (.cells #[.int .i64 0] 3)) := by (repeat' (first | with_reducible exact Below.refl _ _ | with_reducible assumption | with_reducible refine Below.drew ?_ | with_reducible refine below_drewN ?_ _ | with_reducible refine Below.setCell ?_ ?_ _ | with_reducible refine Below.alloc ?_ ?_ _ | omega | (simp; done) | (simp; omega)))
      have hx7 : Below w2.heap.size w2 (w6.alloc (.cells #[.int .i64 0] 3)) := by (repeat' (first | with_reducible exact Below.refl _ _ | with_reducible assumption | with_reducible refine Below.drew ?_ | with_reducible refine below_drewN ?_ _ | with_reducible refine Below.setCell ?_ ?_ _ | with_reducible refine Below.alloc ?_ ?_ _ | omega | (simp; done) | (simp; omega)))
      have hu7 : w6.heap.size < (w6.alloc (.cells #[.int .i64 0] 3)).heap.size := by simp
      have l7St := lt_of_H St6
      have l7R := lt_of_H R6
      have l7S := lt_of_H S6
      have l7N := lt_of_H N6
      have l7BX := lt_of_H BX6
      have l7RB := lt_of_H RB
      obtain ⟨ib, hib⟩ : ∃ ib, w6.heap.size = ib := ⟨_, rfl⟩
      clear St6 R6 S6 N6 BX6 RB hw6 hx6 cRB
      generalize (w6.alloc (.cells #[.int .i64 0] 3)) = w7 at *
      rw [hib] at IB7 hu7 l7St l7R l7S l7N l7BX l7RB zw6 zx6 ⊢
      clear hib
      have HA7 : RowAt encR 4 w7 w7.heap.size A2 s := (HROW.out.below hx7 (Nat.le_refl _)).more hx7.size
      generalize ha : Act.mk _ _ = a0
      refine wpIn_rangeFunc_ownH rfl (by decide) (gf := 53) (lb := #[.pointer (some ⟨Bx, 0, none⟩)]) (by rw [← ha]; rfl) trivial (enters_of Tryd.func53 (by kernel_rfl) rfl)
        (tops_stops s A2 c2 E w (by omega) HI.out HE.out (3 - 1) w1.heap.size Bx w2.heap.size ⟨hBx, hlbx⟩ HA2.out w7 hw7 (by omega) BX7 HA7)
        KeepR.trans (fun W l o o' hl h q1 q2 => keepR_b (m := w.heap.size) (lo := w1.heap.size) (hi := w2.heap.size) (w := w7) (by omega) (by omega) W l o o' hl h q1 q2) (Below.refl _ _) (fun x => rfl)
        (TiI (topsL s 1) ib w7) (TiX (topsL s 1) ib w7 stop) (TiI_own (Nat.le_of_lt hu7) (Nat.le_refl _)) (fun c => TiX_own c (Nat.le_of_lt hu7) (Nat.le_refl _)) ⟨IB7.out, Below.refl _ _, rfl⟩
        (fun x a' W => ∃ Bp, w7.heap.size ≤ Bp ∧ W.heap[Bp]? = some (.cells #[.int .i64 x.2.num, .int .i64 x.2.den] 29 (0, 0)) ∧ a' = { tmps := (((a0.tmps.setIfInBounds 55 (.int .i64 x.1)).setIfInBounds 56 (.agg #[.int .i64 x.2.num, .int .i64 x.2.den])).setIfInBounds 12 (.int .i64 x.1)).setIfInBounds 13 (.pointer (some ⟨Bp, 0, none⟩)), defers := [] })
        (fun x a' s W W' row hs hg hr => by obtain ⟨Bp, h2, h3, h4⟩ := hs; exact ⟨Bp, h2, ownBlk h3 hg hr, h4⟩) ?assign ?body ?done ?stop
      case assign =>
        intro l9 pre x W K hI hK
        obtain ⟨i1, i2, i3⟩ := hI
        have zz := i2.size
        subst ha
        simp only [encT]
        gi_wp2_with fail
        have h9 := hK _ _ ((KeepsOthers.alloc W (.cells #[.int .i64 x.2.num, .int .i64 x.2.den] 29)).from _) (KeepR.ofBelow ((Below.refl _ _).alloc (Nat.le_refl _) _) (by omega) (by omega)) ⟨blk_old i1, i2.alloc (by omega) _, i3⟩ ⟨_, zz, blk_new rfl, rfl⟩
        simp only [List.setIfInBounds_toArray, List.set_cons_zero, List.set_cons_succ] at h9
        exact h9
      case body =>
        rintro l9 pre ⟨xk, xq⟩ a' wq hl9 ⟨rr, hrr⟩ ⟨i1, i2, i3⟩ ⟨Bp, p2, p3, rfl⟩ hlt
        subst ha
        try simp only [List.setIfInBounds_toArray, List.set_cons_zero, List.set_cons_succ]
        have zq := i2.size
        have St8 : Hid (wq.heap[w.heap.size + 1]? = some (.cells #[.int .i64 stop] 3 (0, 0))) := (i2.block _ l7St).trans St7.out
        have R8 : Hid (wq.heap[w.heap.size + 1 + 1]? = some (.cells #[.bool false] 4 (0, 0))) := (i2.block _ l7R).trans R7.out
        have S8 : Hid (wq.heap[w.heap.size]? = some (.cells #[.slice A s.length c] 22 (0, 0))) := (i2.block _ l7S).trans S7.out
        have N8 : Hid (wq.heap[w2.heap.size]? = some (.cells #[.int .i64 n0] 3 (0, 0))) := (i2.block _ l7N).trans N7.out
        have BX8 : Hid (wq.heap[Bx]? = some (.cells #[.slice A2 s.length c2] 22 (0, 0))) := (i2.block _ l7BX).trans BX7.out
        have RB8 : Hid (wq.heap[rb]? = some (.cells #[.int .i64 0] 3 (0, 0))) := (i2.block _ l7RB).trans RB7.out
        have hw8 : Below w.heap.size w wq := hw7.trans (i2.mono zw6)
        have hx8 : Below w2.heap.size w2 wq := hx7.trans (i2.mono zx6)
        have IB8 : Hid (wq.heap[ib]? = some (.cells #[.int .i64 pre.length] 3 (0, 0))) := i1
        have P8 : Hid (wq.heap[Bp]? = some (.cells #[.int .i64 xq.num, .int .i64 xq.den] 29 (0, 0))) := p3
        have HI2 := Lib.hid i2
        have HI3 := Lib.hid i3
        clear i1 i2 i3 p3
        have HCL : Hid (∀ k ∈ [ib, w.heap.size + 1 + 1], ∃ cs t z, wq.heap[k]? = some (.cells cs t z)) := by
          intro k hk
          simp only [List.mem_cons, List.not_mem_nil, or_false] at hk
          rcases hk with rfl | rfl
          · exact ⟨_, _, _, IB8.out⟩
          · exact ⟨_, _, _, R8.out⟩
        have HCI : Hid (∀ k ∈ [ib], ∃ cs t z, wq.heap[k]? = some (.cells cs t z)) := fun k hk => HCL.out k (by simp only [List.mem_singleton] at hk; subst hk; simp)
        have hBp := lt_of_H P8
        have cI8 := cellH IB8
        have fI8 := frozH IB8
        have kw : IntKind.i64.wrap ((pre.length : Int) + 1) = (pre.length : Int) + 1 := by rw [IntKind.wrap_i64]; omega
        gi_upto_region 22 with fail
        obtain ⟨wz, hwz⟩ : ∃ wz, (wq.setCell ⟨ib, 0, none⟩ (.int .i64 ((pre.length : Int) + 1))) = wz := ⟨_, rfl⟩
        have hoZ : OnlyL [ib] wq wz := by rw [← hwz]; exact OnlyL.setCell (OnlyL.refl _ _) (.inl (by simp)) _
        have IB9 : Hid (wz.heap[ib]? = some (.cells #[.int .i64 ((pre.length : Int) + 1)] 3 (0, 0))) := by rw [← hwz]; exact setBox IB8.out _
        have St9 := Lib.hid ((show wz.heap[w.heap.size + 1]? = wq.heap[w.heap.size + 1]? by rw [← hwz]; exact setOther rfl (by show _ ≠ ib; omega)).trans St8.out)
        have R9 := Lib.hid ((show wz.heap[w.heap.size + 1 + 1]? = wq.heap[w.heap.size + 1 + 1]? by rw [← hwz]; exact setOther rfl (by show _ ≠ ib; omega)).trans R8.out)
        have S9 := Lib.hid ((show wz.heap[w.heap.size]? = wq.heap[w.heap.size]? by rw [← hwz]; exact setOther rfl (by show _ ≠ ib; omega)).trans S8.out)
        have N9 := Lib.hid ((show wz.heap[w2.heap.size]? = wq.heap[w2.heap.size]? by rw [← hwz]; exact setOther rfl (by show _ ≠ ib; omega)).trans N8.out)
        have RB9 := Lib.hid ((show wz.heap[rb]? = wq.heap[rb]? by rw [← hwz]; exact setOther rfl (by show _ ≠ ib; omega)).trans RB8.out)
        have P9 := Lib.hid ((show wz.heap[Bp]? = wq.heap[Bp]? by rw [← hwz]; exact setOther rfl (by show _ ≠ ib; omega)).trans P8.out)
        have hw9 : Below w.heap.size w wz := hw8.trans (hoZ.below (by omega) (fun k hk => by simp only [List.mem_singleton] at hk; omega))
        have hx9 : Below w2.heap.size w2 wz := hx8.trans (hoZ.below (by omega) (fun k hk => by simp only [List.mem_singleton] at hk; omega))
        have zo9 := hoZ.size
        rw [hwz]
        clear hwz cI8 fI8 St8 R8 S8 N8 BX8 RB8 IB8 P8 hw8 hx8
        have cI9 := cellH IB9
        have cN9 := cellH N9
        by_cases hT : pre.length < TL
        · obtain ⟨⟨pk, pq⟩, hp⟩ : ∃ p, (topsL s 1)[pre.length]? = some p := ⟨_, List.getElem?_eq_getElem (by have := HTL.out; omega)⟩
          obtain ⟨hpk, ⟨n1, d1, n2, d2⟩, hb, hat⟩ := topsL_at hp
          dsimp only at hpk hat
          have HP := Lib.hid hp
          have hmx : decide (max (n0 : Int) 1 ≤ (pre.length : Int) + 1) = false := decide_eq_false (by have := HN9.out; omega)
          clear hp
          by_cases hk9 : xk = pre.length + 1
          · have hk8 : ((xk : Int) != (pre.length : Int) + 1) = false := by rw [hk9]; simp
            have hkk : (xk : Int) = (pre.length : Int) + 1 := by omega
            rw [show 1 + pre.length = xk by omega] at hb hpk
            gi_upto_region 24 with fail
            have HPK := Lib.hid hpk
            clear cI9 cN9 hmx hk8 hk9 hkk hpk
            obtain ⟨gr, off, hAe, hgB, k0, k1, _, _⟩ := cells4 (HL.out.below hw9 (Nat.le_refl _)) hb
            obtain ⟨⟨a1, a2⟩, ⟨a3, a4⟩, _⟩ := HI.out _ (List.mem_of_getElem? hb)
            have hls := (List.getElem?_eq_some_iff.1 hb).1
            dsimp only at a1 a2 a3 a4
            subst hAe
            replace k0 : wz.cell? ⟨gr, off + xk * 4, none⟩ = some (.int .i64 n1) := k0
            replace k1 : wz.cell? ⟨gr, off + xk * 4 + 1, none⟩ = some (.int .i64 d1) := k1
            have x0 : wz.cell? ⟨w.heap.size, 0, none⟩ = some (.slice (some ⟨gr, off, none⟩) s.length c) := cellH S9 0
            have HAT9 := Lib.hid (fun w' (h : Below w.heap.size w w') => refAt15_any s (some ⟨gr, off, none⟩) c n1 d1 w' ((HL.out.below h (Nat.le_refl _)).more h.size) hm HI.out ⟨a1, a2⟩ ⟨a3, a4⟩)
            have HAA := Lib.hid hat
            clear hb hat
            have i0 : (xk : Int) ≤ (s.length : Int) := by omega
            have i1 : (xk : Int) < (s.length : Int) := by omega
            have i2 : (0 : Int) ≤ (xk : Int) := by omega
            have i3 : ((xk : Int)).toNat = xk := by omega
            gi_cut [14] from 68 (fun s14 wx => ∃ g : Nat, s14 = .pointer (some ⟨g, 0, none⟩) ∧ Below w.heap.size w wx ∧ OnlyL [ib] wq wx ∧ Hid (wx.heap[g]? = some (.cells #[.int .i64 pq.num, .int .i64 pq.den] 29 (0, 0))) ∧ Hid (wx.heap[w.heap.size + 1 + 1]? = some (.cells #[.bool false] 4 (0, 0))) ∧ Hid (wx.heap[rb]? = some (.cells #[.int .i64 0] 3 (0, 0))) ∧ Hid (wx.heap[ib]? = some (.cells #[.int .i64 ((pre.length : Int) + 1)] 3 (0, 0))) ∧ Hid (wx.heap[w.heap.size + 1]? = some (.cells #[.int .i64 stop] 3 (0, 0))) ∧ Hid (wx.heap[Bp]? = some (.cells #[.int .i64 xq.num, .int .i64 xq.den] 29 (0, 0))) ∧ Hid (wx.heap[w.heap.size]? = some (.cells #[.slice (some ⟨gr, off, none⟩) s.length c] 22 (0, 0))) ∧ Hid (wx.heap[w2.heap.size]? = some (.cells #[.int .i64 n0] 3 (0, 0))))
            case first =>
              as_aux_lemma =>
                refine round_held_drew (S := fun w' => w'.cell? ⟨w.heap.size, 0, none⟩ = some (.slice (some ⟨gr, off, none⟩) s.length c) ∧ w'.cell? ⟨gr, off + xk * 4, none⟩ = some (.int .i64 n1) ∧ w'.cell? ⟨gr, off + xk * 4 + 1, none⟩ = some (.int .i64 d1)) (by kernel_rfl) (by kernel_rfl) ?_ (fun hH0 => ?_)
                · exact ⟨x0, k0, k1⟩
                refine wpAnyH_take (i := 0) (oi := { dst := some 69, op := Go.Op.load 22 (Go.Operand.tmp 2), type := 22, pos := "law.go:270", after := #[], guard := none }) (v := ?_) rfl (by kernel_rfl) (by kernel_rfl) (by kernel_rfl) (fun _ _ _ h => h) (Or.inl ⟨by rfl, ?_⟩) (by assumption) ?_
                rotate_left
                · intro wq hSw; (try dsimp only at hSw); go_simp; (try with_reducible rfl)
                try simp only [Act.put, List.setIfInBounds_toArray, List.set_cons_zero, List.set_cons_succ]
                refine wpAnyH_take (i := 1) (oi := { dst := some 70, op := Go.Op.load 22 (Go.Operand.tmp 2), type := 22, pos := "law.go:270", after := #[], guard := none }) (v := ?_) rfl (by kernel_rfl) (by kernel_rfl) (by kernel_rfl) (fun _ _ _ h => h) (Or.inl ⟨by rfl, ?_⟩) (by assumption) ?_
                rotate_left
                · intro wq hSw; (try dsimp only at hSw); go_simp; (try with_reducible rfl)
                try simp only [Act.put, List.setIfInBounds_toArray, List.set_cons_zero, List.set_cons_succ]
                refine wpAnyH_take (i := 2) (oi := { dst := some 71, op := Go.Op.move (Go.Operand.tmp 12), type := 3, pos := "law.go:270", after := #[], guard := none }) (v := ?_) rfl (by kernel_rfl) (by kernel_rfl) (by kernel_rfl) (fun _ _ _ h => h) (Or.inl ⟨by rfl, ?_⟩) (by assumption) ?_
                rotate_left
                · intro wq hSw; (try dsimp only at hSw); go_simp; (try with_reducible rfl)
                try simp only [Act.put, List.setIfInBounds_toArray, List.set_cons_zero, List.set_cons_succ]
                refine wpAnyH_take (i := 3) (oi := { dst := some 72, op := Go.Op.indexAddr 22 (Go.Operand.tmp 70) (Go.Operand.tmp 71), type := 0, pos := "law.go:270", after := #[{ on := 1, ground := Go.Ground.data }, { on := 2, ground := Go.Ground.data }], guard := none }) (v := ?_) rfl (by kernel_rfl) (by kernel_rfl) (by kernel_rfl) (fun _ _ _ h => h) (Or.inl ⟨by rfl, ?_⟩) (by assumption) ?_
                rotate_left
                · intro wq hSw; (try dsimp only at hSw); go_simp; (try with_reducible rfl)
                try simp only [Act.put, List.setIfInBounds_toArray, List.set_cons_zero, List.set_cons_succ]
                refine wpAnyH_take (i := 4) (oi := { dst := some 73, op := Go.Op.fieldAddr 33 (Go.Operand.tmp 72) 0, type := 0, pos := "law.go:270", after := #[{ on := 3, ground := Go.Ground.data }], guard := none }) (v := ?_) rfl (by kernel_rfl) (by kernel_rfl) (by kernel_rfl) (fun _ _ _ h => h) (Or.inl ⟨by rfl, ?_⟩) (by assumption) ?_
                rotate_left
                · intro wq hSw; (try dsimp only at hSw); go_simp; (try with_reducible rfl)
                try simp only [Act.put, List.setIfInBounds_toArray, List.set_cons_zero, List.set_cons_succ]
                refine wpAnyH_take (i := 5) (oi := { dst := some 74, op := Go.Op.load 29 (Go.Operand.tmp 73), type := 29, pos := "law.go:270", after := #[{ on := 4, ground := Go.Ground.data }], guard := none }) (v := ?_) rfl (by kernel_rfl) (by kernel_rfl) (by kernel_rfl) (fun _ _ _ h => h) (Or.inl ⟨by rfl, ?_⟩) (by assumption) ?_
                rotate_left
                · intro wq hSw; (try dsimp only at hSw); go_simp; (try with_reducible rfl)
                try simp only [Act.put, List.setIfInBounds_toArray, List.set_cons_zero, List.set_cons_succ]
                refine wpAnyH_ready (rs := [6, 10]) (by kernel_rfl) (by simp) ?_
                refine AllReadyH.cons (o := { dst := some 75, op := Go.Op.call { callee := Go.Callee.value (Go.Operand.func 10), args := #[Go.Operand.tmp 69, Go.Operand.tmp 74], argTypes := #[22, 29] }, type := 30, pos := "law.go:270", after := #[{ on := 0, ground := Go.Ground.data }, { on := 5, ground := Go.Ground.data }], guard := none }) rfl (fun K hK => ?_) ?_
                · skip
                  go_simp
                  refine (HAT9.out _ (by (repeat' (first | with_reducible exact Below.refl _ _ | with_reducible assumption | with_reducible refine Below.drew ?_ | with_reducible refine below_drewN ?_ _ | with_reducible refine Below.setCell ?_ ?_ _ | with_reducible refine Below.alloc ?_ ?_ _ | omega | (simp; done) | (simp; omega))))).mono ?_
                  rintro e w21 ⟨⟨n', d', c9, rfl, hr⟩, hb21⟩
                  rw [HAA.out] at hr
                  obtain ⟨rfl, rfl, rfl⟩ := hr
                  replace x0 : w21.cell? ⟨w.heap.size, 0, none⟩ = some (.slice (some ⟨gr, off, none⟩) s.length c) := cellOf hb21 (by first | exact x0 | exact cell_drew x0 | exact cell_alloc (cell_drew x0) | exact cell_alloc x0)
                  replace k0 : w21.cell? ⟨gr, off + xk * 4, none⟩ = some (.int .i64 n1) := cellOf hb21 (by first | exact k0 | exact cell_drew k0 | exact cell_alloc (cell_drew k0) | exact cell_alloc k0)
                  replace k1 : w21.cell? ⟨gr, off + xk * 4 + 1, none⟩ = some (.int .i64 d1) := cellOf hb21 (by first | exact k1 | exact cell_drew k1 | exact cell_alloc (cell_drew k1) | exact cell_alloc k1)
                  have hw21 : Below w.heap.size w w21 := stepH (by (repeat' (first | with_reducible exact Below.refl _ _ | with_reducible assumption | with_reducible refine Below.drew ?_ | with_reducible refine below_drewN ?_ _ | with_reducible refine Below.setCell ?_ ?_ _ | with_reducible refine Below.alloc ?_ ?_ _ | omega | (simp; done) | (simp; omega)))) hb21
                  have ho21 : OnlyL [ib] wq w21 := OnlyL.step (by (repeat' (first | with_reducible exact OnlyL.refl _ _ | with_reducible assumption | with_reducible refine OnlyL.drew ?_ | with_reducible refine OnlyL.drewN ?_ _ | with_reducible refine OnlyL.setCell ?_ ?_ _ | with_reducible refine OnlyL.alloc ?_ _ | omega | (simp; done) | (simp; omega)))) hb21
                  have zo21 := ho21.size
                  replace R9 := keepH hb21 (by first | with_reducible exact drew_old R9.out | with_reducible exact blk_old (drew_old R9.out) | with_reducible exact drew_old (blk_old R9.out) | with_reducible exact blk_old R9.out)
                  replace RB9 := keepH hb21 (by first | with_reducible exact drew_old RB9.out | with_reducible exact blk_old (drew_old RB9.out) | with_reducible exact drew_old (blk_old RB9.out) | with_reducible exact blk_old RB9.out)
                  replace IB9 := keepH hb21 (by first | with_reducible exact drew_old IB9.out | with_reducible exact blk_old (drew_old IB9.out) | with_reducible exact drew_old (blk_old IB9.out) | with_reducible exact blk_old IB9.out)
                  replace St9 := keepH hb21 (by first | with_reducible exact drew_old St9.out | with_reducible exact blk_old (drew_old St9.out) | with_reducible exact drew_old (blk_old St9.out) | with_reducible exact blk_old St9.out)
                  replace P9 := keepH hb21 (by first | with_reducible exact drew_old P9.out | with_reducible exact blk_old (drew_old P9.out) | with_reducible exact drew_old (blk_old P9.out) | with_reducible exact blk_old P9.out)
                  replace S9 := keepH hb21 (by first | with_reducible exact drew_old S9.out | with_reducible exact blk_old (drew_old S9.out) | with_reducible exact drew_old (blk_old S9.out) | with_reducible exact blk_old S9.out)
                  replace N9 := keepH hb21 (by first | with_reducible exact drew_old N9.out | with_reducible exact blk_old (drew_old N9.out) | with_reducible exact drew_old (blk_old N9.out) | with_reducible exact blk_old N9.out)
                  have lR9 := lt_of_H R9
                  have lRB9 := lt_of_H RB9
                  have lIB9 := lt_of_H IB9
                  have lSt9 := lt_of_H St9
                  have lP9 := lt_of_H P9
                  have lS9 := lt_of_H S9
                  have lN9 := lt_of_H N9
                  have lg := cell_lt k0
                  go_wp2_with fail
                  refine hK.out _ _ ?_ (fun hH1 => ?_)
                  · (try dsimp only); exact ⟨x0, k0, k1⟩
                  clear hK K
                  clear hH0
                  try simp only [Act.put, List.setIfInBounds_toArray, List.set_cons_zero, List.set_cons_succ]
                  refine wpAnyH_take (i := 7) (oi := { dst := some 68, op := Go.Op.move (Go.Operand.tmp 75), type := 30, pos := "law.go:270", after := #[{ on := 6, ground := Go.Ground.data }], guard := none }) (v := ?_) rfl (by kernel_rfl) (by kernel_rfl) (by kernel_rfl) (fun _ _ _ h => h) (Or.inl ⟨by rfl, ?_⟩) (by assumption) ?_
                  rotate_left
                  · intro wq hSw; (try dsimp only at hSw); go_simp; (try with_reducible rfl)
                  try simp only [Act.put, List.setIfInBounds_toArray, List.set_cons_zero, List.set_cons_succ]
                  refine wpAnyH_take (i := 8) (oi := { dst := some 76, op := Go.Op.extract (Go.Operand.tmp 68) 0, type := 29, pos := "law.go:270", after := #[{ on := 7, ground := Go.Ground.data }], guard := none }) (v := ?_) rfl (by kernel_rfl) (by kernel_rfl) (by kernel_rfl) (fun _ _ _ h => h) (Or.inl ⟨by rfl, ?_⟩) (by assumption) ?_
                  rotate_left
                  · intro wq hSw; (try dsimp only at hSw); go_simp; (try with_reducible rfl)
                  try simp only [Act.put, List.setIfInBounds_toArray, List.set_cons_zero, List.set_cons_succ]
                  refine wpAnyH_take (i := 9) (oi := { dst := some 77, op := Go.Op.extract (Go.Operand.tmp 68) 1, type := 3, pos := "law.go:270", after := #[{ on := 7, ground := Go.Ground.data }, { on := 11, ground := Go.Ground.gcOnly Go.Departure.lateStores }], guard := none }) (v := ?_) rfl (by kernel_rfl) (by kernel_rfl) (by kernel_rfl) (fun _ _ _ h => h) (Or.inl ⟨by rfl, ?_⟩) (by assumption) ?_
                  rotate_left
                  · intro wq hSw; (try dsimp only at hSw); go_simp; (try with_reducible rfl)
                  try simp only [Act.put, List.setIfInBounds_toArray, List.set_cons_zero, List.set_cons_succ]
                  refine wpAnyH_ready (rs := [10]) (by kernel_rfl) (by simp) ?_
                  refine AllReadyH.cons (o := { dst := some 14, op := Go.Op.alloc 29, type := 0, pos := "law.go:270", after := #[], guard := none }) rfl (fun K hK => ?_) AllReadyH.nil
                  go_simp
                  refine hK.out _ _ ?_ (fun hH2 => ?_)
                  · (try dsimp only); exact ⟨(by first | exact cell_alloc x0 | exact cell_alloc (cell_drew x0)), (by first | exact cell_alloc k0 | exact cell_alloc (cell_drew k0)), (by first | exact cell_alloc k1 | exact cell_alloc (cell_drew k1))⟩
                  clear hK K
                  clear hH1
                  try simp only [Act.put, List.setIfInBounds_toArray, List.set_cons_zero, List.set_cons_succ]
                  refine wpAnyH_ready (rs := [11]) (by kernel_rfl) (by simp) ?_
                  refine AllReadyH.cons (o := { dst := none, op := Go.Op.store 29 (Go.Operand.tmp 14) (Go.Operand.tmp 76), type := 0, pos := "law.go:270", after := #[{ on := 10, ground := Go.Ground.data }, { on := 8, ground := Go.Ground.data }, { on := 6, ground := Go.Ground.chain }, { on := 0, ground := Go.Ground.phase }, { on := 1, ground := Go.Ground.phase }, { on := 2, ground := Go.Ground.phase }, { on := 3, ground := Go.Ground.phase }, { on := 4, ground := Go.Ground.phase }, { on := 5, ground := Go.Ground.phase }, { on := 6, ground := Go.Ground.phase }, { on := 7, ground := Go.Ground.phase }, { on := 8, ground := Go.Ground.phase }, { on := 9, ground := Go.Ground.textOnly Go.Departure.lateStores }, { on := 10, ground := Go.Ground.phase }], guard := none }) rfl (fun K hK => ?_) AllReadyH.nil
                  go_simp
                  refine hK.out _ _ ?_ (fun hH3 => ?_)
                  · (try dsimp only); exact ⟨(by repeat (first | exact x0 | refine cell_set ?_ (by first | assumption | (dsimp only; assumption) | (dsimp only; omega)) | refine cell_alloc ?_ | refine cell_drew ?_)), (by repeat (first | exact k0 | refine cell_set ?_ (by first | assumption | (dsimp only; assumption) | (dsimp only; omega)) | refine cell_alloc ?_ | refine cell_drew ?_)), (by repeat (first | exact k1 | refine cell_set ?_ (by first | assumption | (dsimp only; assumption) | (dsimp only; omega)) | refine cell_alloc ?_ | refine cell_drew ?_))⟩
                  clear hK K
                  clear hH2
                  try simp only [Act.put, List.setIfInBounds_toArray, List.set_cons_zero, List.set_cons_succ]
                  refine wpAnyH_take (i := 12) (oi := { dst := some 15, op := Go.Op.assign (Go.Operand.tmp 77), type := 3, pos := "law.go:270", after := #[{ on := 9, ground := Go.Ground.data }, { on := 11, ground := Go.Ground.chain }, { on := 0, ground := Go.Ground.phase }, { on := 1, ground := Go.Ground.phase }, { on := 2, ground := Go.Ground.phase }, { on := 3, ground := Go.Ground.phase }, { on := 4, ground := Go.Ground.phase }, { on := 5, ground := Go.Ground.phase }, { on := 6, ground := Go.Ground.phase }, { on := 7, ground := Go.Ground.phase }, { on := 8, ground := Go.Ground.phase }, { on := 9, ground := Go.Ground.phase }, { on := 10, ground := Go.Ground.phase }, { on := 11, ground := Go.Ground.phase }], guard := none }) (v := ?_) rfl (by kernel_rfl) (by kernel_rfl) (by kernel_rfl) (fun _ _ _ h => h) (Or.inl ⟨by rfl, ?_⟩) (by assumption) ?_
                  rotate_left
                  · intro wq hSw; (try dsimp only at hSw); go_simp; (try with_reducible rfl)
                  try simp only [Act.put, List.setIfInBounds_toArray, List.set_cons_zero, List.set_cons_succ]
                  refine wpAnyH_done (by kernel_rfl) ?_ _
                  refine noOut_normal ?_
                  gi_wp2_with fail
                  gi_meet
                  exact ⟨_, rfl, (by (repeat' (first | with_reducible exact Below.refl _ _ | with_reducible assumption | with_reducible refine Below.drew ?_ | with_reducible refine below_drewN ?_ _ | with_reducible refine Below.setCell ?_ ?_ _ | with_reducible refine Below.alloc ?_ ?_ _ | omega | (simp; done) | (simp; omega)))), (by (repeat' (first | with_reducible exact OnlyL.refl _ _ | with_reducible assumption | with_reducible refine OnlyL.drew ?_ | with_reducible refine OnlyL.drewN ?_ _ | with_reducible refine OnlyL.setCell ?_ ?_ _ | with_reducible refine OnlyL.alloc ?_ _ | omega | (simp; done) | (simp; omega)))), (by first | with_reducible exact setH2 NBk.out | exact blk_new rfl), Lib.hid (by repeat' (first | with_reducible exact R9.out | with_reducible refine setOther ?_ (by dsimp only; omega) | with_reducible refine blk_old ?_ | with_reducible refine drew_old ?_)), Lib.hid (by repeat' (first | with_reducible exact RB9.out | with_reducible refine setOther ?_ (by dsimp only; omega) | with_reducible refine blk_old ?_ | with_reducible refine drew_old ?_)), Lib.hid (by repeat' (first | with_reducible exact IB9.out | with_reducible refine setOther ?_ (by dsimp only; omega) | with_reducible refine blk_old ?_ | with_reducible refine drew_old ?_)), Lib.hid (by repeat' (first | with_reducible exact St9.out | with_reducible refine setOther ?_ (by dsimp only; omega) | with_reducible refine blk_old ?_ | with_reducible refine drew_old ?_)), Lib.hid (by repeat' (first | with_reducible exact P9.out | with_reducible refine setOther ?_ (by dsimp only; omega) | with_reducible refine blk_old ?_ | with_reducible refine drew_old ?_)), Lib.hid (by repeat' (first | with_reducible exact S9.out | with_reducible refine setOther ?_ (by dsimp only; omega) | with_reducible refine blk_old ?_ | with_reducible refine drew_old ?_)), Lib.hid (by repeat' (first | with_reducible exact N9.out | with_reducible refine setOther ?_ (by dsimp only; omega) | with_reducible refine blk_old ?_ | with_reducible refine drew_old ?_))⟩
                refine AllReadyH.cons (o := { dst := some 14, op := Go.Op.alloc 29, type := 0, pos := "law.go:270", after := #[], guard := none }) rfl (fun K hK => ?_) AllReadyH.nil
                go_simp
                refine hK.out _ _ ?_ (fun hH1 => ?_)
                · (try dsimp only); exact ⟨(by first | exact cell_alloc x0 | exact cell_alloc (cell_drew x0)), (by first | exact cell_alloc k0 | exact cell_alloc (cell_drew k0)), (by first | exact cell_alloc k1 | exact cell_alloc (cell_drew k1))⟩
                clear hK K
                clear hH0
                try simp only [Act.put, List.setIfInBounds_toArray, List.set_cons_zero, List.set_cons_succ]
                refine wpAnyH_ready (rs := [6]) (by kernel_rfl) (by simp) ?_
                refine AllReadyH.cons (o := { dst := some 75, op := Go.Op.call { callee := Go.Callee.value (Go.Operand.func 10), args := #[Go.Operand.tmp 69, Go.Operand.tmp 74], argTypes := #[22, 29] }, type := 30, pos := "law.go:270", after := #[{ on := 0, ground := Go.Ground.data }, { on := 5, ground := Go.Ground.data }], guard := none }) rfl (fun K hK => ?_) AllReadyH.nil
                go_simp
                refine (HAT9.out _ (by (repeat' (first | with_reducible exact Below.refl _ _ | with_reducible assumption | with_reducible refine Below.drew ?_ | with_reducible refine below_drewN ?_ _ | with_reducible refine Below.setCell ?_ ?_ _ | with_reducible refine Below.alloc ?_ ?_ _ | omega | (simp; done) | (simp; omega))))).mono ?_
                rintro e w21 ⟨⟨n', d', c9, rfl, hr⟩, hb21⟩
                rw [HAA.out] at hr
                obtain ⟨rfl, rfl, rfl⟩ := hr
                replace x0 : w21.cell? ⟨w.heap.size, 0, none⟩ = some (.slice (some ⟨gr, off, none⟩) s.length c) := cellOf hb21 (by first | exact x0 | exact cell_drew x0 | exact cell_alloc (cell_drew x0) | exact cell_alloc x0)
                replace k0 : w21.cell? ⟨gr, off + xk * 4, none⟩ = some (.int .i64 n1) := cellOf hb21 (by first | exact k0 | exact cell_drew k0 | exact cell_alloc (cell_drew k0) | exact cell_alloc k0)
                replace k1 : w21.cell? ⟨gr, off + xk * 4 + 1, none⟩ = some (.int .i64 d1) := cellOf hb21 (by first | exact k1 | exact cell_drew k1 | exact cell_alloc (cell_drew k1) | exact cell_alloc k1)
                have hw21 : Below w.heap.size w w21 := stepH (by (repeat' (first | with_reducible exact Below.refl _ _ | with_reducible assumption | with_reducible refine Below.drew ?_ | with_reducible refine below_drewN ?_ _ | with_reducible refine Below.setCell ?_ ?_ _ | with_reducible refine Below.alloc ?_ ?_ _ | omega | (simp; done) | (simp; omega)))) hb21
                have ho21 : OnlyL [ib] wq w21 := OnlyL.step (by (repeat' (first | with_reducible exact OnlyL.refl _ _ | with_reducible assumption | with_reducible refine OnlyL.drew ?_ | with_reducible refine OnlyL.drewN ?_ _ | with_reducible refine OnlyL.setCell ?_ ?_ _ | with_reducible refine OnlyL.alloc ?_ _ | omega | (simp; done) | (simp; omega)))) hb21
                have zo21 := ho21.size
                replace R9 := keepH hb21 (by first | with_reducible exact drew_old R9.out | with_reducible exact blk_old (drew_old R9.out) | with_reducible exact drew_old (blk_old R9.out) | with_reducible exact blk_old R9.out)
                replace RB9 := keepH hb21 (by first | with_reducible exact drew_old RB9.out | with_reducible exact blk_old (drew_old RB9.out) | with_reducible exact drew_old (blk_old RB9.out) | with_reducible exact blk_old RB9.out)
                replace IB9 := keepH hb21 (by first | with_reducible exact drew_old IB9.out | with_reducible exact blk_old (drew_old IB9.out) | with_reducible exact drew_old (blk_old IB9.out) | with_reducible exact blk_old IB9.out)
                replace St9 := keepH hb21 (by first | with_reducible exact drew_old St9.out | with_reducible exact blk_old (drew_old St9.out) | with_reducible exact drew_old (blk_old St9.out) | with_reducible exact blk_old St9.out)
                replace P9 := keepH hb21 (by first | with_reducible exact drew_old P9.out | with_reducible exact blk_old (drew_old P9.out) | with_reducible exact drew_old (blk_old P9.out) | with_reducible exact blk_old P9.out)
                replace S9 := keepH hb21 (by first | with_reducible exact drew_old S9.out | with_reducible exact blk_old (drew_old S9.out) | with_reducible exact drew_old (blk_old S9.out) | with_reducible exact blk_old S9.out)
                replace N9 := keepH hb21 (by first | with_reducible exact drew_old N9.out | with_reducible exact blk_old (drew_old N9.out) | with_reducible exact drew_old (blk_old N9.out) | with_reducible exact blk_old N9.out)
                have NBk := keepH hb21 (by with_reducible first | exact blk_new rfl | exact drew_old (blk_new rfl))
                have cNB := cellH NBk
                have fNB := frozH NBk
                have lNB := lt_of_H NBk
                have lR9 := lt_of_H R9
                have lRB9 := lt_of_H RB9
                have lIB9 := lt_of_H IB9
                have lSt9 := lt_of_H St9
                have lP9 := lt_of_H P9
                have lS9 := lt_of_H S9
                have lN9 := lt_of_H N9
                have lg := cell_lt k0
                go_wp2_with fail
                refine hK.out _ _ ?_ (fun hH2 => ?_)
                · (try dsimp only); exact ⟨x0, k0, k1⟩
                clear hK K
                clear hH1
                try simp only [Act.put, List.setIfInBounds_toArray, List.set_cons_zero, List.set_cons_succ]
                refine wpAnyH_take (i := 7) (oi := { dst := some 68, op := Go.Op.move (Go.Operand.tmp 75), type := 30, pos := "law.go:270", after := #[{ on := 6, ground := Go.Ground.data }], guard := none }) (v := ?_) rfl (by kernel_rfl) (by kernel_rfl) (by kernel_rfl) (fun _ _ _ h => h) (Or.inl ⟨by rfl, ?_⟩) (by assumption) ?_
                rotate_left
                · intro wq hSw; (try dsimp only at hSw); go_simp; (try with_reducible rfl)
                try simp only [Act.put, List.setIfInBounds_toArray, List.set_cons_zero, List.set_cons_succ]
                refine wpAnyH_take (i := 8) (oi := { dst := some 76, op := Go.Op.extract (Go.Operand.tmp 68) 0, type := 29, pos := "law.go:270", after := #[{ on := 7, ground := Go.Ground.data }], guard := none }) (v := ?_) rfl (by kernel_rfl) (by kernel_rfl) (by kernel_rfl) (fun _ _ _ h => h) (Or.inl ⟨by rfl, ?_⟩) (by assumption) ?_
                rotate_left
                · intro wq hSw; (try dsimp only at hSw); go_simp; (try with_reducible rfl)
                try simp only [Act.put, List.setIfInBounds_toArray, List.set_cons_zero, List.set_cons_succ]
                refine wpAnyH_take (i := 9) (oi := { dst := some 77, op := Go.Op.extract (Go.Operand.tmp 68) 1, type := 3, pos := "law.go:270", after := #[{ on := 7, ground := Go.Ground.data }, { on := 11, ground := Go.Ground.gcOnly Go.Departure.lateStores }], guard := none }) (v := ?_) rfl (by kernel_rfl) (by kernel_rfl) (by kernel_rfl) (fun _ _ _ h => h) (Or.inl ⟨by rfl, ?_⟩) (by assumption) ?_
                rotate_left
                · intro wq hSw; (try dsimp only at hSw); go_simp; (try with_reducible rfl)
                try simp only [Act.put, List.setIfInBounds_toArray, List.set_cons_zero, List.set_cons_succ]
                refine wpAnyH_ready (rs := [11]) (by kernel_rfl) (by simp) ?_
                refine AllReadyH.cons (o := { dst := none, op := Go.Op.store 29 (Go.Operand.tmp 14) (Go.Operand.tmp 76), type := 0, pos := "law.go:270", after := #[{ on := 10, ground := Go.Ground.data }, { on := 8, ground := Go.Ground.data }, { on := 6, ground := Go.Ground.chain }, { on := 0, ground := Go.Ground.phase }, { on := 1, ground := Go.Ground.phase }, { on := 2, ground := Go.Ground.phase }, { on := 3, ground := Go.Ground.phase }, { on := 4, ground := Go.Ground.phase }, { on := 5, ground := Go.Ground.phase }, { on := 6, ground := Go.Ground.phase }, { on := 7, ground := Go.Ground.phase }, { on := 8, ground := Go.Ground.phase }, { on := 9, ground := Go.Ground.textOnly Go.Departure.lateStores }, { on := 10, ground := Go.Ground.phase }], guard := none }) rfl (fun K hK => ?_) AllReadyH.nil
                go_simp
                refine hK.out _ _ ?_ (fun hH3 => ?_)
                · (try dsimp only); exact ⟨(by repeat (first | exact x0 | refine cell_set ?_ (by first | assumption | (dsimp only; assumption) | (dsimp only; omega)) | refine cell_alloc ?_ | refine cell_drew ?_)), (by repeat (first | exact k0 | refine cell_set ?_ (by first | assumption | (dsimp only; assumption) | (dsimp only; omega)) | refine cell_alloc ?_ | refine cell_drew ?_)), (by repeat (first | exact k1 | refine cell_set ?_ (by first | assumption | (dsimp only; assumption) | (dsimp only; omega)) | refine cell_alloc ?_ | refine cell_drew ?_))⟩
                clear hK K
                clear hH2
                try simp only [Act.put, List.setIfInBounds_toArray, List.set_cons_zero, List.set_cons_succ]
                refine wpAnyH_take (i := 12) (oi := { dst := some 15, op := Go.Op.assign (Go.Operand.tmp 77), type := 3, pos := "law.go:270", after := #[{ on := 9, ground := Go.Ground.data }, { on := 11, ground := Go.Ground.chain }, { on := 0, ground := Go.Ground.phase }, { on := 1, ground := Go.Ground.phase }, { on := 2, ground := Go.Ground.phase }, { on := 3, ground := Go.Ground.phase }, { on := 4, ground := Go.Ground.phase }, { on := 5, ground := Go.Ground.phase }, { on := 6, ground := Go.Ground.phase }, { on := 7, ground := Go.Ground.phase }, { on := 8, ground := Go.Ground.phase }, { on := 9, ground := Go.Ground.phase }, { on := 10, ground := Go.Ground.phase }, { on := 11, ground := Go.Ground.phase }], guard := none }) (v := ?_) rfl (by kernel_rfl) (by kernel_rfl) (by kernel_rfl) (fun _ _ _ h => h) (Or.inl ⟨by rfl, ?_⟩) (by assumption) ?_
                rotate_left
                · intro wq hSw; (try dsimp only at hSw); go_simp; (try with_reducible rfl)
                try simp only [Act.put, List.setIfInBounds_toArray, List.set_cons_zero, List.set_cons_succ]
                refine wpAnyH_done (by kernel_rfl) ?_ _
                refine noOut_normal ?_
                gi_wp2_with fail
                gi_meet
                exact ⟨_, rfl, (by (repeat' (first | with_reducible exact Below.refl _ _ | with_reducible assumption | with_reducible refine Below.drew ?_ | with_reducible refine below_drewN ?_ _ | with_reducible refine Below.setCell ?_ ?_ _ | with_reducible refine Below.alloc ?_ ?_ _ | omega | (simp; done) | (simp; omega)))), (by (repeat' (first | with_reducible exact OnlyL.refl _ _ | with_reducible assumption | with_reducible refine OnlyL.drew ?_ | with_reducible refine OnlyL.drewN ?_ _ | with_reducible refine OnlyL.setCell ?_ ?_ _ | with_reducible refine OnlyL.alloc ?_ _ | omega | (simp; done) | (simp; omega)))), (by first | with_reducible exact setH2 NBk.out | exact blk_new rfl), Lib.hid (by repeat' (first | with_reducible exact R9.out | with_reducible refine setOther ?_ (by dsimp only; omega) | with_reducible refine blk_old ?_ | with_reducible refine drew_old ?_)), Lib.hid (by repeat' (first | with_reducible exact RB9.out | with_reducible refine setOther ?_ (by dsimp only; omega) | with_reducible refine blk_old ?_ | with_reducible refine drew_old ?_)), Lib.hid (by repeat' (first | with_reducible exact IB9.out | with_reducible refine setOther ?_ (by dsimp only; omega) | with_reducible refine blk_old ?_ | with_reducible refine drew_old ?_)), Lib.hid (by repeat' (first | with_reducible exact St9.out | with_reducible refine setOther ?_ (by dsimp only; omega) | with_reducible refine blk_old ?_ | with_reducible refine drew_old ?_)), Lib.hid (by repeat' (first | with_reducible exact P9.out | with_reducible refine setOther ?_ (by dsimp only; omega) | with_reducible refine blk_old ?_ | with_reducible refine drew_old ?_)), Lib.hid (by repeat' (first | with_reducible exact S9.out | with_reducible refine setOther ?_ (by dsimp only; omega) | with_reducible refine blk_old ?_ | with_reducible refine drew_old ?_)), Lib.hid (by repeat' (first | with_reducible exact N9.out | with_reducible refine setOther ?_ (by dsimp only; omega) | with_reducible refine blk_old ?_ | with_reducible refine drew_old ?_))⟩
            case rest =>
              as_aux_lemma =>
                clear hoZ hw9 hx9 R9 RB9 IB9 St9 P9 S9 N9 k0 k1 x0 zo9
                obtain ⟨gy, rfl, hw9, hoZ, Y, R9, RB9, IB9, St9, P9, S9, N9⟩ := hcut
                obtain ⟨wy, rfl⟩ : ∃ x : World, x = wc := ⟨_, rfl⟩
                have zo9 := hoZ.size
                have cY := cellH Y
                have cP := cellH P9
                gi_wp2_with fail
                first | refine round_open ?_ | refine round_open2 ?_ | refine round_open3 ?_ | refine round_open4 ?_
                by_cases hxq : xq = pq
                · refine (sameB_is _ _ _ _ true _ (by rw [hxq]; simp)).mono ?_
                  rintro e wt ⟨rfl, hbt⟩
                  replace hoZ : OnlyL [ib] wq wt := OnlyL.step hoZ hbt
                  replace hw9 : Below w.heap.size w wt := stepH hw9 hbt
                  replace R9 := keepH hbt R9.out
                  replace RB9 := keepH hbt RB9.out
                  replace IB9 := keepH hbt IB9.out
                  replace St9 := keepH hbt St9.out
                  replace P9 := keepH hbt P9.out
                  replace S9 := keepH hbt S9.out
                  replace N9 := keepH hbt N9.out
                  clear hbt cY cP Y
                  have zo9 := hoZ.size

                  have HLI : Hid (TiI (topsL s 1) ib w7 (pre ++ [(xk, xq)]) wt) := by
                    refine ⟨?_, HI2.out.trans (OnlyL.below hoZ (by omega) (fun k hk => by simp only [List.mem_singleton] at hk; omega)), ?_⟩
                    · rw [show ((pre ++ [(xk, xq)]).length : Int) = (pre.length : Int) + 1 by simp]
                      exact IB9.out
                    · rw [List.length_append, List.length_singleton, take_snoc HP.out, ← HI3.out, HPK.out, hxq]
                  have HKF := Lib.hid (OnlyL.from hoZ w7.heap.size HCI.out)
                  have HKB : Hid (KeepR w.heap.size w1.heap.size w2.heap.size wq wt) := OnlyL.keepR hoZ (by omega) (by omega) (fun k hk => by simp only [List.mem_singleton] at hk; omega)
                  have cB9 := cellH RB9
                  have cT9 := cellH St9
                  have cI9 := cellH IB9

                  by_cases hst : (pre.length : Int) + 1 = stop
                  · have e5 : ((pre.length : Int) + 1 == stop) = true := by simp [hst]
                    have HST : Hid (((pre ++ [(xk, xq)]).length : Int) = stop) := by show _ = _; rw [← hst]; simp
                    clear hst
                    gi_wp2_with fail
                    exact ⟨HKF.out, .inr ⟨HST.out, rfl, HLI.out⟩⟩
                  · have e5 : ((pre.length : Int) + 1 == stop) = false := by simp [hst]
                    clear hst
                    gi_wp2_with fail
                    exact ⟨HKF.out, HKB.out, HLI.out⟩
                · refine (sameB_is _ _ _ _ false _ (by
                    rw [Bool.and_eq_false_imp]
                    intro h
                    rw [beq_eq_false_iff_ne]
                    exact fun h2 => hxq (Rat.ext (by simpa using h) (by exact_mod_cast h2)))).mono ?_
                  rintro e wt ⟨rfl, hbt⟩
                  replace hoZ : OnlyL [ib] wq wt := OnlyL.step hoZ hbt
                  replace hw9 : Below w.heap.size w wt := stepH hw9 hbt
                  replace R9 := keepH hbt R9.out
                  replace RB9 := keepH hbt RB9.out
                  replace IB9 := keepH hbt IB9.out
                  replace St9 := keepH hbt St9.out
                  replace P9 := keepH hbt P9.out
                  replace S9 := keepH hbt S9.out
                  replace N9 := keepH hbt N9.out
                  clear hbt cY cP Y
                  have zo9 := hoZ.size

                  have cR9 := cellH R9
                  have fR9 := frozH R9
                  gi_wp2_with fail
                  exact ⟨OnlyL.from (L := [ib, w.heap.size + 1 + 1]) (OnlyL.setCell (OnlyL.wider hoZ (by simp)) (.inl (by simp)) _) _ HCL.out, .inl (fun h => hxq (congrArg Prod.snd (prefix_one h HP.out)))⟩
          · have hk8 : ((xk : Int) != (pre.length : Int) + 1) = true := by rw [bne_iff_ne]; omega
            have cR9 := cellH R9
            have fR9 := frozH R9
            gi_wp2_with fail
            exact ⟨OnlyL.from (L := [ib, w.heap.size + 1 + 1]) (OnlyL.setCell (OnlyL.wider hoZ (by simp)) (.inl (by simp)) _) _ HCL.out, .inl (fun h => by have h9 := congrArg Prod.fst (prefix_one h HP.out); dsimp only at h9; omega)⟩
        · have hmx : decide (max (n0 : Int) 1 ≤ (pre.length : Int) + 1) = true := decide_eq_true (by have := HN9.out; omega)
          have cR9 := cellH R9
          have fR9 := frozH R9
          gi_wp2_with fail
          exact ⟨OnlyL.from (L := [ib, w.heap.size + 1 + 1]) (OnlyL.setCell (OnlyL.wider hoZ (by simp)) (.inl (by simp)) _) _ HCL.out, .inl (fun h => by have h9 := prefix_len h; have := HTL.out; omega)⟩
      case done =>
        intro D0 xs W hD0 hxs hI hK
        rw [hxs] at hI
        obtain ⟨i1, i2, i3⟩ := hI
        rw [HTL.out] at i1
        have HKD := Lib.hid hK
        subst ha
        have zq := i2.size
        have St8 : Hid (W.heap[w.heap.size + 1]? = some (.cells #[.int .i64 stop] 3 (0, 0))) := (i2.block _ l7St).trans St7.out
        have R8 : Hid (W.heap[w.heap.size + 1 + 1]? = some (.cells #[.bool false] 4 (0, 0))) := (i2.block _ l7R).trans R7.out
        have S8 : Hid (W.heap[w.heap.size]? = some (.cells #[.slice A s.length c] 22 (0, 0))) := (i2.block _ l7S).trans S7.out
        have N8 : Hid (W.heap[w2.heap.size]? = some (.cells #[.int .i64 n0] 3 (0, 0))) := (i2.block _ l7N).trans N7.out
        have BX8 : Hid (W.heap[Bx]? = some (.cells #[.slice A2 s.length c2] 22 (0, 0))) := (i2.block _ l7BX).trans BX7.out
        have RB8 : Hid (W.heap[rb]? = some (.cells #[.int .i64 0] 3 (0, 0))) := (i2.block _ l7RB).trans RB7.out
        have hw8 : Below w.heap.size w W := hw7.trans (i2.mono zw6)
        have hx8 : Below w2.heap.size w2 W := hx7.trans (i2.mono zx6)
        have IB8 : Hid (W.heap[ib]? = some (.cells #[.int .i64 TL] 3 (0, 0))) := i1
        have cSt := cellH St8
        have cN := cellH N8
        have cRB := cellH RB8
        have cIB := cellH IB8
        have kwn : IntKind.i64.wrap ((n0 : Int) - 1) = (n0 : Int) - 1 := by rw [IntKind.wrap_i64]; have := HN9.out; omega
        have e6 : ((TL : Int) != max ((n0 : Int) - 1) 0) = false := by rw [bne_eq_false_iff_eq]; have := HN9.out; omega
        clear i1 i2 i3 hK hxs
        gi_wp2_with fail
        clear kwn e6
        have RB9 : Hid ((W.alloc (.cells #[.int .i64 1] 3)).heap[W.heap.size]? = some (.cells #[.int .i64 1] 3 (0, 0))) := blk_new rfl
        have St6 := Lib.hid (blk_old (o := .cells #[.int .i64 1] 3) St8.out)
        have R6 := Lib.hid (blk_old (o := .cells #[.int .i64 1] 3) R8.out)
        have S6 := Lib.hid (blk_old (o := .cells #[.int .i64 1] 3) S8.out)
        have N6 := Lib.hid (blk_old (o := .cells #[.int .i64 1] 3) N8.out)
        have BX6 := Lib.hid (blk_old (o := .cells #[.int .i64 1] 3) BX8.out)
        have KD0 := Lib.hid (blk_old (o := .cells #[.int .i64 1] 3) HKD.out)

        have zw8 := hw8.size
        have zx8 := hx8.size
        have hw6 : Below w.heap.size w (W.alloc (.cells #[.int .i64 1] 3)) := by (repeat' (first | with_reducible exact Below.refl _ _ | with_reducible assumption | with_reducible refine Below.drew ?_ | with_reducible refine below_drewN ?_ _ | with_reducible refine Below.setCell ?_ ?_ _ | with_reducible refine Below.alloc ?_ ?_ _ | omega | (simp; done) | (simp; omega)))
        have hx6 : Below w2.heap.size w2 (W.alloc (.cells #[.int .i64 1] 3)) := by (repeat' (first | with_reducible exact Below.refl _ _ | with_reducible assumption | with_reducible refine Below.drew ?_ | with_reducible refine below_drewN ?_ _ | with_reducible refine Below.setCell ?_ ?_ _ | with_reducible refine Below.alloc ?_ ?_ _ | omega | (simp; done) | (simp; omega)))
        obtain ⟨rb9, hrb⟩ : ∃ rb, W.heap.size = rb := ⟨_, rfl⟩
        clear St8 R8 S8 N8 BX8 RB8 IB8 HKD hw8 hx8 cSt cRB cIB cN St7 R7 S7 N7 BX7 RB7 IB7 hw7 hx7 HA7
        generalize (W.alloc (.cells #[.int .i64 1] 3)) = w69 at *
        rw [hrb] at RB9 ⊢
        rw [hrb] at zw8 zx8 zq
        clear hrb
        have cRB := cellH RB9

        rw [roundsIn_succ]
        gi_wp2_with fail
        have IB7 : Hid ((w69.alloc (.cells #[.int .i64 0] 3)).heap[w69.heap.size]? = some (.cells #[.int .i64 0] 3 (0, 0))) := blk_new rfl
        have St7 := Lib.hid (blk_old (o := .cells #[.int .i64 0] 3) St6.out)
        have R7 := Lib.hid (blk_old (o := .cells #[.int .i64 0] 3) R6.out)
        have S7 := Lib.hid (blk_old (o := .cells #[.int .i64 0] 3) S6.out)
        have N7 := Lib.hid (blk_old (o := .cells #[.int .i64 0] 3) N6.out)
        have BX7 := Lib.hid (blk_old (o := .cells #[.int .i64 0] 3) BX6.out)
        have RB7 := Lib.hid (blk_old (o := .cells #[.int .i64 0] 3) RB9.out)
        have KD07 := Lib.hid (blk_old (o := .cells #[.int .i64 0] 3) KD0.out)
        have lD0 : D0 < w69.heap.size := (Array.getElem?_eq_some_iff.1 KD0.out).1
        have zw6 := hw6.size
        have zx6 := hx6.size
        have hw7 : Below w.heap.size w (w69.alloc (.cells #[.int .i64 0] 3)) := by (repeat' (first | with_reducible exact Below.refl _ _ | with_reducible assumption | with_reducible refine Below.drew ?_ | with_reducible refine below_drewN ?_ _ | with_reducible refine Below.setCell ?_ ?_ _ | with_reducible refine Below.alloc ?_ ?_ _ | omega | (simp; done) | (simp; omega)))
        have hx7 : Below w2.heap.size w2 (w69.alloc (.cells #[.int .i64 0] 3)) := by (repeat' (first | with_reducible exact Below.refl _ _ | with_reducible assumption | with_reducible refine Below.drew ?_ | with_reducible refine below_drewN ?_ _ | with_reducible refine Below.setCell ?_ ?_ _ | with_reducible refine Below.alloc ?_ ?_ _ | omega | (simp; done) | (simp; omega)))
        have hu7 : w69.heap.size < (w69.alloc (.cells #[.int .i64 0] 3)).heap.size := by simp
        have l7St := lt_of_H St6
        have l7R := lt_of_H R6
        have l7S := lt_of_H S6
        have l7N := lt_of_H N6
        have l7BX := lt_of_H BX6
        have l7RB := lt_of_H RB9
        obtain ⟨ib, hib⟩ : ∃ ib, w69.heap.size = ib := ⟨_, rfl⟩
        clear St6 R6 S6 N6 BX6 RB9 hw6 hx6 cRB
        generalize (w69.alloc (.cells #[.int .i64 0] 3)) = w7 at *
        rw [hib] at IB7 hu7 l7St l7R l7S l7N l7BX l7RB zw6 zx6 lD0 ⊢
        clear hib
        have HA7 : RowAt encR 4 w7 w7.heap.size A2 s := (HROW.out.below hx7 (Nat.le_refl _)).more hx7.size
        generalize ha : Act.mk _ _ = a0
        refine wpIn_rangeFunc_ownH rfl (by decide) (gf := 53) (lb := #[.pointer (some ⟨Bx, 0, none⟩)]) (by rw [← ha]; rfl) trivial (enters_of Tryd.func53 (by kernel_rfl) rfl)
          (tops_stops s A2 c2 E w (by omega) HI.out HE.out (3 - 1) w1.heap.size Bx w2.heap.size ⟨hBx, hlbx⟩ HA2.out w7 hw7 (by omega) BX7 HA7)
          KeepR.trans (fun W l o o' hl h q1 q2 => keepR_b (m := w.heap.size) (lo := w1.heap.size) (hi := w2.heap.size) (w := w7) (by omega) (by omega) W l o o' hl h q1 q2) (Below.refl _ _) (fun x => rfl)
          (TiI (topsL s 1) ib w7) (TiX (topsL s 1) ib w7 (-1)) (TiI_own (Nat.le_of_lt hu7) (Nat.le_refl _)) (fun c => TiX_own c (Nat.le_of_lt hu7) (Nat.le_refl _)) ⟨IB7.out, Below.refl _ _, rfl⟩
          (fun x a' W => ∃ Bp, w7.heap.size ≤ Bp ∧ W.heap[Bp]? = some (.cells #[.int .i64 x.2.num, .int .i64 x.2.den] 29 (0, 0)) ∧ a' = { tmps := (((a0.tmps.setIfInBounds 55 (.int .i64 x.1)).setIfInBounds 56 (.agg #[.int .i64 x.2.num, .int .i64 x.2.den])).setIfInBounds 12 (.int .i64 x.1)).setIfInBounds 13 (.pointer (some ⟨Bp, 0, none⟩)), defers := [] })
          (fun x a' s W W' row hs hg hr => by obtain ⟨Bp, h2, h3, h4⟩ := hs; exact ⟨Bp, h2, ownBlk h3 hg hr, h4⟩) ?assign1 ?body1 ?done1 ?stop1
        case assign1 =>
          intro l9 pre x W K hI hK
          obtain ⟨i1, i2, i3⟩ := hI
          have zz := i2.size
          subst ha
          simp only [encT]
          gi_wp2_with fail
          have h9 := hK _ _ ((KeepsOthers.alloc W (.cells #[.int .i64 x.2.num, .int .i64 x.2.den] 29)).from _) (KeepR.ofBelow ((Below.refl _ _).alloc (Nat.le_refl _) _) (by omega) (by omega)) ⟨blk_old i1, i2.alloc (by omega) _, i3⟩ ⟨_, zz, blk_new rfl, rfl⟩
          simp only [List.setIfInBounds_toArray, List.set_cons_zero, List.set_cons_succ] at h9
          exact h9
        case body1 =>
          rintro l9 pre ⟨xk, xq⟩ a' wq hl9 ⟨rr, hrr⟩ ⟨i1, i2, i3⟩ ⟨Bp, p2, p3, rfl⟩ hlt
          subst ha
          try simp only [List.setIfInBounds_toArray, List.set_cons_zero, List.set_cons_succ]
          have zq := i2.size
          have St8 : Hid (wq.heap[w.heap.size + 1]? = some (.cells #[.int .i64 stop] 3 (0, 0))) := (i2.block _ l7St).trans St7.out
          have R8 : Hid (wq.heap[w.heap.size + 1 + 1]? = some (.cells #[.bool false] 4 (0, 0))) := (i2.block _ l7R).trans R7.out
          have S8 : Hid (wq.heap[w.heap.size]? = some (.cells #[.slice A s.length c] 22 (0, 0))) := (i2.block _ l7S).trans S7.out
          have N8 : Hid (wq.heap[w2.heap.size]? = some (.cells #[.int .i64 n0] 3 (0, 0))) := (i2.block _ l7N).trans N7.out
          have BX8 : Hid (wq.heap[Bx]? = some (.cells #[.slice A2 s.length c2] 22 (0, 0))) := (i2.block _ l7BX).trans BX7.out
          have RB8 : Hid (wq.heap[rb9]? = some (.cells #[.int .i64 1] 3 (0, 0))) := (i2.block _ l7RB).trans RB7.out
          have hw8 : Below w.heap.size w wq := hw7.trans (i2.mono zw6)
          have hx8 : Below w2.heap.size w2 wq := hx7.trans (i2.mono zx6)
          have IB8 : Hid (wq.heap[ib]? = some (.cells #[.int .i64 pre.length] 3 (0, 0))) := i1
          have P8 : Hid (wq.heap[Bp]? = some (.cells #[.int .i64 xq.num, .int .i64 xq.den] 29 (0, 0))) := p3
          have HI2 := Lib.hid i2
          have HI3 := Lib.hid i3
          clear i1 i2 i3 p3
          have HCL : Hid (∀ k ∈ [ib, w.heap.size + 1 + 1], ∃ cs t z, wq.heap[k]? = some (.cells cs t z)) := by
            intro k hk
            simp only [List.mem_cons, List.not_mem_nil, or_false] at hk
            rcases hk with rfl | rfl
            · exact ⟨_, _, _, IB8.out⟩
            · exact ⟨_, _, _, R8.out⟩
          have HCI : Hid (∀ k ∈ [ib], ∃ cs t z, wq.heap[k]? = some (.cells cs t z)) := fun k hk => HCL.out k (by simp only [List.mem_singleton] at hk; subst hk; simp)
          have hBp := lt_of_H P8
          have cI8 := cellH IB8
          have fI8 := frozH IB8
          have kw : IntKind.i64.wrap ((pre.length : Int) + 1) = (pre.length : Int) + 1 := by rw [IntKind.wrap_i64]; omega
          gi_upto_region 22 with fail
          obtain ⟨wz, hwz⟩ : ∃ wz, (wq.setCell ⟨ib, 0, none⟩ (.int .i64 ((pre.length : Int) + 1))) = wz := ⟨_, rfl⟩
          have hoZ : OnlyL [ib] wq wz := by rw [← hwz]; exact OnlyL.setCell (OnlyL.refl _ _) (.inl (by simp)) _
          have IB9 : Hid (wz.heap[ib]? = some (.cells #[.int .i64 ((pre.length : Int) + 1)] 3 (0, 0))) := by rw [← hwz]; exact setBox IB8.out _
          have St9 := Lib.hid ((show wz.heap[w.heap.size + 1]? = wq.heap[w.heap.size + 1]? by rw [← hwz]; exact setOther rfl (by show _ ≠ ib; omega)).trans St8.out)
          have R9 := Lib.hid ((show wz.heap[w.heap.size + 1 + 1]? = wq.heap[w.heap.size + 1 + 1]? by rw [← hwz]; exact setOther rfl (by show _ ≠ ib; omega)).trans R8.out)
          have S9 := Lib.hid ((show wz.heap[w.heap.size]? = wq.heap[w.heap.size]? by rw [← hwz]; exact setOther rfl (by show _ ≠ ib; omega)).trans S8.out)
          have N9 := Lib.hid ((show wz.heap[w2.heap.size]? = wq.heap[w2.heap.size]? by rw [← hwz]; exact setOther rfl (by show _ ≠ ib; omega)).trans N8.out)
          have RB9 := Lib.hid ((show wz.heap[rb9]? = wq.heap[rb9]? by rw [← hwz]; exact setOther rfl (by show _ ≠ ib; omega)).trans RB8.out)
          have P9 := Lib.hid ((show wz.heap[Bp]? = wq.heap[Bp]? by rw [← hwz]; exact setOther rfl (by show _ ≠ ib; omega)).trans P8.out)
          have hw9 : Below w.heap.size w wz := hw8.trans (hoZ.below (by omega) (fun k hk => by simp only [List.mem_singleton] at hk; omega))
          have hx9 : Below w2.heap.size w2 wz := hx8.trans (hoZ.below (by omega) (fun k hk => by simp only [List.mem_singleton] at hk; omega))
          have zo9 := hoZ.size
          rw [hwz]
          clear hwz cI8 fI8 St8 R8 S8 N8 BX8 RB8 IB8 P8 hw8 hx8
          have cI9 := cellH IB9
          have cN9 := cellH N9
          by_cases hT : pre.length < TL
          · obtain ⟨⟨pk, pq⟩, hp⟩ : ∃ p, (topsL s 1)[pre.length]? = some p := ⟨_, List.getElem?_eq_getElem (by have := HTL.out; omega)⟩
            obtain ⟨hpk, ⟨n1, d1, n2, d2⟩, hb, hat⟩ := topsL_at hp
            dsimp only at hpk hat
            have HP := Lib.hid hp
            have hmx : decide (max (n0 : Int) 1 ≤ (pre.length : Int) + 1) = false := decide_eq_false (by have := HN9.out; omega)
            clear hp
            by_cases hk9 : xk = pre.length + 1
            · have hk8 : ((xk : Int) != (pre.length : Int) + 1) = false := by rw [hk9]; simp
              have hkk : (xk : Int) = (pre.length : Int) + 1 := by omega
              rw [show 1 + pre.length = xk by omega] at hb hpk
              gi_upto_region 24 with fail
              have HPK := Lib.hid hpk
              clear cI9 cN9 hmx hk8 hk9 hkk hpk
              obtain ⟨gr, off, hAe, hgB, k0, k1, _, _⟩ := cells4 (HL.out.below hw9 (Nat.le_refl _)) hb
              obtain ⟨⟨a1, a2⟩, ⟨a3, a4⟩, _⟩ := HI.out _ (List.mem_of_getElem? hb)
              have hls := (List.getElem?_eq_some_iff.1 hb).1
              dsimp only at a1 a2 a3 a4
              subst hAe
              replace k0 : wz.cell? ⟨gr, off + xk * 4, none⟩ = some (.int .i64 n1) := k0
              replace k1 : wz.cell? ⟨gr, off + xk * 4 + 1, none⟩ = some (.int .i64 d1) := k1
              have x0 : wz.cell? ⟨w.heap.size, 0, none⟩ = some (.slice (some ⟨gr, off, none⟩) s.length c) := cellH S9 0
              have HAT9 := Lib.hid (fun w' (h : Below w.heap.size w w') => refAt15_any s (some ⟨gr, off, none⟩) c n1 d1 w' ((HL.out.below h (Nat.le_refl _)).more h.size) hm HI.out ⟨a1, a2⟩ ⟨a3, a4⟩)
              have HAA := Lib.hid hat
              clear hb hat
              have i0 : (xk : Int) ≤ (s.length : Int) := by omega
              have i1 : (xk : Int) < (s.length : Int) := by omega
              have i2 : (0 : Int) ≤ (xk : Int) := by omega
              have i3 : ((xk : Int)).toNat = xk := by omega
              gi_cut [14] from 68 (fun s14 wx => ∃ g : Nat, s14 = .pointer (some ⟨g, 0, none⟩) ∧ Below w.heap.size w wx ∧ OnlyL [ib] wq wx ∧ Hid (wx.heap[g]? = some (.cells #[.int .i64 pq.num, .int .i64 pq.den] 29 (0, 0))) ∧ Hid (wx.heap[w.heap.size + 1 + 1]? = some (.cells #[.bool false] 4 (0, 0))) ∧ Hid (wx.heap[rb9]? = some (.cells #[.int .i64 1] 3 (0, 0))) ∧ Hid (wx.heap[ib]? = some (.cells #[.int .i64 ((pre.length : Int) + 1)] 3 (0, 0))) ∧ Hid (wx.heap[w.heap.size + 1]? = some (.cells #[.int .i64 stop] 3 (0, 0))) ∧ Hid (wx.heap[Bp]? = some (.cells #[.int .i64 xq.num, .int .i64 xq.den] 29 (0, 0))) ∧ Hid (wx.heap[w.heap.size]? = some (.cells #[.slice (some ⟨gr, off, none⟩) s.length c] 22 (0, 0))) ∧ Hid (wx.heap[w2.heap.size]? = some (.cells #[.int .i64 n0] 3 (0, 0))))
              case first =>
                as_aux_lemma =>
                  refine round_held_drew (S := fun w' => w'.cell? ⟨w.heap.size, 0, none⟩ = some (.slice (some ⟨gr, off, none⟩) s.length c) ∧ w'.cell? ⟨gr, off + xk * 4, none⟩ = some (.int .i64 n1) ∧ w'.cell? ⟨gr, off + xk * 4 + 1, none⟩ = some (.int .i64 d1)) (by kernel_rfl) (by kernel_rfl) ?_ (fun hH0 => ?_)
                  · exact ⟨x0, k0, k1⟩
                  refine wpAnyH_take (i := 0) (oi := { dst := some 69, op := Go.Op.load 22 (Go.Operand.tmp 2), type := 22, pos := "law.go:270", after := #[], guard := none }) (v := ?_) rfl (by kernel_rfl) (by kernel_rfl) (by kernel_rfl) (fun _ _ _ h => h) (Or.inl ⟨by rfl, ?_⟩) (by assumption) ?_
                  rotate_left
                  · intro wq hSw; (try dsimp only at hSw); go_simp; (try with_reducible rfl)
                  try simp only [Act.put, List.setIfInBounds_toArray, List.set_cons_zero, List.set_cons_succ]
                  refine wpAnyH_take (i := 1) (oi := { dst := some 70, op := Go.Op.load 22 (Go.Operand.tmp 2), type := 22, pos := "law.go:270", after := #[], guard := none }) (v := ?_) rfl (by kernel_rfl) (by kernel_rfl) (by kernel_rfl) (fun _ _ _ h => h) (Or.inl ⟨by rfl, ?_⟩) (by assumption) ?_
                  rotate_left
                  · intro wq hSw; (try dsimp only at hSw); go_simp; (try with_reducible rfl)
                  try simp only [Act.put, List.setIfInBounds_toArray, List.set_cons_zero, List.set_cons_succ]
                  refine wpAnyH_take (i := 2) (oi := { dst := some 71, op := Go.Op.move (Go.Operand.tmp 12), type := 3, pos := "law.go:270", after := #[], guard := none }) (v := ?_) rfl (by kernel_rfl) (by kernel_rfl) (by kernel_rfl) (fun _ _ _ h => h) (Or.inl ⟨by rfl, ?_⟩) (by assumption) ?_
                  rotate_left
                  · intro wq hSw; (try dsimp only at hSw); go_simp; (try with_reducible rfl)
                  try simp only [Act.put, List.setIfInBounds_toArray, List.set_cons_zero, List.set_cons_succ]
                  refine wpAnyH_take (i := 3) (oi := { dst := some 72, op := Go.Op.indexAddr 22 (Go.Operand.tmp 70) (Go.Operand.tmp 71), type := 0, pos := "law.go:270", after := #[{ on := 1, ground := Go.Ground.data }, { on := 2, ground := Go.Ground.data }], guard := none }) (v := ?_) rfl (by kernel_rfl) (by kernel_rfl) (by kernel_rfl) (fun _ _ _ h => h) (Or.inl ⟨by rfl, ?_⟩) (by assumption) ?_
                  rotate_left
                  · intro wq hSw; (try dsimp only at hSw); go_simp; (try with_reducible rfl)
                  try simp only [Act.put, List.setIfInBounds_toArray, List.set_cons_zero, List.set_cons_succ]
                  refine wpAnyH_take (i := 4) (oi := { dst := some 73, op := Go.Op.fieldAddr 33 (Go.Operand.tmp 72) 0, type := 0, pos := "law.go:270", after := #[{ on := 3, ground := Go.Ground.data }], guard := none }) (v := ?_) rfl (by kernel_rfl) (by kernel_rfl) (by kernel_rfl) (fun _ _ _ h => h) (Or.inl ⟨by rfl, ?_⟩) (by assumption) ?_
                  rotate_left
                  · intro wq hSw; (try dsimp only at hSw); go_simp; (try with_reducible rfl)
                  try simp only [Act.put, List.setIfInBounds_toArray, List.set_cons_zero, List.set_cons_succ]
                  refine wpAnyH_take (i := 5) (oi := { dst := some 74, op := Go.Op.load 29 (Go.Operand.tmp 73), type := 29, pos := "law.go:270", after := #[{ on := 4, ground := Go.Ground.data }], guard := none }) (v := ?_) rfl (by kernel_rfl) (by kernel_rfl) (by kernel_rfl) (fun _ _ _ h => h) (Or.inl ⟨by rfl, ?_⟩) (by assumption) ?_
                  rotate_left
                  · intro wq hSw; (try dsimp only at hSw); go_simp; (try with_reducible rfl)
                  try simp only [Act.put, List.setIfInBounds_toArray, List.set_cons_zero, List.set_cons_succ]
                  refine wpAnyH_ready (rs := [6, 10]) (by kernel_rfl) (by simp) ?_
                  refine AllReadyH.cons (o := { dst := some 75, op := Go.Op.call { callee := Go.Callee.value (Go.Operand.func 10), args := #[Go.Operand.tmp 69, Go.Operand.tmp 74], argTypes := #[22, 29] }, type := 30, pos := "law.go:270", after := #[{ on := 0, ground := Go.Ground.data }, { on := 5, ground := Go.Ground.data }], guard := none }) rfl (fun K hK => ?_) ?_
                  · skip
                    go_simp
                    refine (HAT9.out _ (by (repeat' (first | with_reducible exact Below.refl _ _ | with_reducible assumption | with_reducible refine Below.drew ?_ | with_reducible refine below_drewN ?_ _ | with_reducible refine Below.setCell ?_ ?_ _ | with_reducible refine Below.alloc ?_ ?_ _ | omega | (simp; done) | (simp; omega))))).mono ?_
                    rintro e w21 ⟨⟨n', d', c9, rfl, hr⟩, hb21⟩
                    rw [HAA.out] at hr
                    obtain ⟨rfl, rfl, rfl⟩ := hr
                    replace x0 : w21.cell? ⟨w.heap.size, 0, none⟩ = some (.slice (some ⟨gr, off, none⟩) s.length c) := cellOf hb21 (by first | exact x0 | exact cell_drew x0 | exact cell_alloc (cell_drew x0) | exact cell_alloc x0)
                    replace k0 : w21.cell? ⟨gr, off + xk * 4, none⟩ = some (.int .i64 n1) := cellOf hb21 (by first | exact k0 | exact cell_drew k0 | exact cell_alloc (cell_drew k0) | exact cell_alloc k0)
                    replace k1 : w21.cell? ⟨gr, off + xk * 4 + 1, none⟩ = some (.int .i64 d1) := cellOf hb21 (by first | exact k1 | exact cell_drew k1 | exact cell_alloc (cell_drew k1) | exact cell_alloc k1)
                    have hw21 : Below w.heap.size w w21 := stepH (by (repeat' (first | with_reducible exact Below.refl _ _ | with_reducible assumption | with_reducible refine Below.drew ?_ | with_reducible refine below_drewN ?_ _ | with_reducible refine Below.setCell ?_ ?_ _ | with_reducible refine Below.alloc ?_ ?_ _ | omega | (simp; done) | (simp; omega)))) hb21
                    have ho21 : OnlyL [ib] wq w21 := OnlyL.step (by (repeat' (first | with_reducible exact OnlyL.refl _ _ | with_reducible assumption | with_reducible refine OnlyL.drew ?_ | with_reducible refine OnlyL.drewN ?_ _ | with_reducible refine OnlyL.setCell ?_ ?_ _ | with_reducible refine OnlyL.alloc ?_ _ | omega | (simp; done) | (simp; omega)))) hb21
                    have zo21 := ho21.size
                    replace R9 := keepH hb21 (by first | with_reducible exact drew_old R9.out | with_reducible exact blk_old (drew_old R9.out) | with_reducible exact drew_old (blk_old R9.out) | with_reducible exact blk_old R9.out)
                    replace RB9 := keepH hb21 (by first | with_reducible exact drew_old RB9.out | with_reducible exact blk_old (drew_old RB9.out) | with_reducible exact drew_old (blk_old RB9.out) | with_reducible exact blk_old RB9.out)
                    replace IB9 := keepH hb21 (by first | with_reducible exact drew_old IB9.out | with_reducible exact blk_old (drew_old IB9.out) | with_reducible exact drew_old (blk_old IB9.out) | with_reducible exact blk_old IB9.out)
                    replace St9 := keepH hb21 (by first | with_reducible exact drew_old St9.out | with_reducible exact blk_old (drew_old St9.out) | with_reducible exact drew_old (blk_old St9.out) | with_reducible exact blk_old St9.out)
                    replace P9 := keepH hb21 (by first | with_reducible exact drew_old P9.out | with_reducible exact blk_old (drew_old P9.out) | with_reducible exact drew_old (blk_old P9.out) | with_reducible exact blk_old P9.out)
                    replace S9 := keepH hb21 (by first | with_reducible exact drew_old S9.out | with_reducible exact blk_old (drew_old S9.out) | with_reducible exact drew_old (blk_old S9.out) | with_reducible exact blk_old S9.out)
                    replace N9 := keepH hb21 (by first | with_reducible exact drew_old N9.out | with_reducible exact blk_old (drew_old N9.out) | with_reducible exact drew_old (blk_old N9.out) | with_reducible exact blk_old N9.out)
                    have lR9 := lt_of_H R9
                    have lRB9 := lt_of_H RB9
                    have lIB9 := lt_of_H IB9
                    have lSt9 := lt_of_H St9
                    have lP9 := lt_of_H P9
                    have lS9 := lt_of_H S9
                    have lN9 := lt_of_H N9
                    have lg := cell_lt k0
                    go_wp2_with fail
                    refine hK.out _ _ ?_ (fun hH1 => ?_)
                    · (try dsimp only); exact ⟨x0, k0, k1⟩
                    clear hK K
                    clear hH0
                    try simp only [Act.put, List.setIfInBounds_toArray, List.set_cons_zero, List.set_cons_succ]
                    refine wpAnyH_take (i := 7) (oi := { dst := some 68, op := Go.Op.move (Go.Operand.tmp 75), type := 30, pos := "law.go:270", after := #[{ on := 6, ground := Go.Ground.data }], guard := none }) (v := ?_) rfl (by kernel_rfl) (by kernel_rfl) (by kernel_rfl) (fun _ _ _ h => h) (Or.inl ⟨by rfl, ?_⟩) (by assumption) ?_
                    rotate_left
                    · intro wq hSw; (try dsimp only at hSw); go_simp; (try with_reducible rfl)
                    try simp only [Act.put, List.setIfInBounds_toArray, List.set_cons_zero, List.set_cons_succ]
                    refine wpAnyH_take (i := 8) (oi := { dst := some 76, op := Go.Op.extract (Go.Operand.tmp 68) 0, type := 29, pos := "law.go:270", after := #[{ on := 7, ground := Go.Ground.data }], guard := none }) (v := ?_) rfl (by kernel_rfl) (by kernel_rfl) (by kernel_rfl) (fun _ _ _ h => h) (Or.inl ⟨by rfl, ?_⟩) (by assumption) ?_
                    rotate_left
                    · intro wq hSw; (try dsimp only at hSw); go_simp; (try with_reducible rfl)
                    try simp only [Act.put, List.setIfInBounds_toArray, List.set_cons_zero, List.set_cons_succ]
                    refine wpAnyH_take (i := 9) (oi := { dst := some 77, op := Go.Op.extract (Go.Operand.tmp 68) 1, type := 3, pos := "law.go:270", after := #[{ on := 7, ground := Go.Ground.data }, { on := 11, ground := Go.Ground.gcOnly Go.Departure.lateStores }], guard := none }) (v := ?_) rfl (by kernel_rfl) (by kernel_rfl) (by kernel_rfl) (fun _ _ _ h => h) (Or.inl ⟨by rfl, ?_⟩) (by assumption) ?_
                    rotate_left
                    · intro wq hSw; (try dsimp only at hSw); go_simp; (try with_reducible rfl)
                    try simp only [Act.put, List.setIfInBounds_toArray, List.set_cons_zero, List.set_cons_succ]
                    refine wpAnyH_ready (rs := [10]) (by kernel_rfl) (by simp) ?_
                    refine AllReadyH.cons (o := { dst := some 14, op := Go.Op.alloc 29, type := 0, pos := "law.go:270", after := #[], guard := none }) rfl (fun K hK => ?_) AllReadyH.nil
                    go_simp
                    refine hK.out _ _ ?_ (fun hH2 => ?_)
                    · (try dsimp only); exact ⟨(by first | exact cell_alloc x0 | exact cell_alloc (cell_drew x0)), (by first | exact cell_alloc k0 | exact cell_alloc (cell_drew k0)), (by first | exact cell_alloc k1 | exact cell_alloc (cell_drew k1))⟩
                    clear hK K
                    clear hH1
                    try simp only [Act.put, List.setIfInBounds_toArray, List.set_cons_zero, List.set_cons_succ]
                    refine wpAnyH_ready (rs := [11]) (by kernel_rfl) (by simp) ?_
                    refine AllReadyH.cons (o := { dst := none, op := Go.Op.store 29 (Go.Operand.tmp 14) (Go.Operand.tmp 76), type := 0, pos := "law.go:270", after := #[{ on := 10, ground := Go.Ground.data }, { on := 8, ground := Go.Ground.data }, { on := 6, ground := Go.Ground.chain }, { on := 0, ground := Go.Ground.phase }, { on := 1, ground := Go.Ground.phase }, { on := 2, ground := Go.Ground.phase }, { on := 3, ground := Go.Ground.phase }, { on := 4, ground := Go.Ground.phase }, { on := 5, ground := Go.Ground.phase }, { on := 6, ground := Go.Ground.phase }, { on := 7, ground := Go.Ground.phase }, { on := 8, ground := Go.Ground.phase }, { on := 9, ground := Go.Ground.textOnly Go.Departure.lateStores }, { on := 10, ground := Go.Ground.phase }], guard := none }) rfl (fun K hK => ?_) AllReadyH.nil
                    go_simp
                    refine hK.out _ _ ?_ (fun hH3 => ?_)
                    · (try dsimp only); exact ⟨(by repeat (first | exact x0 | refine cell_set ?_ (by first | assumption | (dsimp only; assumption) | (dsimp only; omega)) | refine cell_alloc ?_ | refine cell_drew ?_)), (by repeat (first | exact k0 | refine cell_set ?_ (by first | assumption | (dsimp only; assumption) | (dsimp only; omega)) | refine cell_alloc ?_ | refine cell_drew ?_)), (by repeat (first | exact k1 | refine cell_set ?_ (by first | assumption | (dsimp only; assumption) | (dsimp only; omega)) | refine cell_alloc ?_ | refine cell_drew ?_))⟩
                    clear hK K
                    clear hH2
                    try simp only [Act.put, List.setIfInBounds_toArray, List.set_cons_zero, List.set_cons_succ]
                    refine wpAnyH_take (i := 12) (oi := { dst := some 15, op := Go.Op.assign (Go.Operand.tmp 77), type := 3, pos := "law.go:270", after := #[{ on := 9, ground := Go.Ground.data }, { on := 11, ground := Go.Ground.chain }, { on := 0, ground := Go.Ground.phase }, { on := 1, ground := Go.Ground.phase }, { on := 2, ground := Go.Ground.phase }, { on := 3, ground := Go.Ground.phase }, { on := 4, ground := Go.Ground.phase }, { on := 5, ground := Go.Ground.phase }, { on := 6, ground := Go.Ground.phase }, { on := 7, ground := Go.Ground.phase }, { on := 8, ground := Go.Ground.phase }, { on := 9, ground := Go.Ground.phase }, { on := 10, ground := Go.Ground.phase }, { on := 11, ground := Go.Ground.phase }], guard := none }) (v := ?_) rfl (by kernel_rfl) (by kernel_rfl) (by kernel_rfl) (fun _ _ _ h => h) (Or.inl ⟨by rfl, ?_⟩) (by assumption) ?_
                    rotate_left
                    · intro wq hSw; (try dsimp only at hSw); go_simp; (try with_reducible rfl)
                    try simp only [Act.put, List.setIfInBounds_toArray, List.set_cons_zero, List.set_cons_succ]
                    refine wpAnyH_done (by kernel_rfl) ?_ _
                    refine noOut_normal ?_
                    gi_wp2_with fail
                    gi_meet
                    exact ⟨_, rfl, (by (repeat' (first | with_reducible exact Below.refl _ _ | with_reducible assumption | with_reducible refine Below.drew ?_ | with_reducible refine below_drewN ?_ _ | with_reducible refine Below.setCell ?_ ?_ _ | with_reducible refine Below.alloc ?_ ?_ _ | omega | (simp; done) | (simp; omega)))), (by (repeat' (first | with_reducible exact OnlyL.refl _ _ | with_reducible assumption | with_reducible refine OnlyL.drew ?_ | with_reducible refine OnlyL.drewN ?_ _ | with_reducible refine OnlyL.setCell ?_ ?_ _ | with_reducible refine OnlyL.alloc ?_ _ | omega | (simp; done) | (simp; omega)))), (by first | with_reducible exact setH2 NBk.out | exact blk_new rfl), Lib.hid (by repeat' (first | with_reducible exact R9.out | with_reducible refine setOther ?_ (by dsimp only; omega) | with_reducible refine blk_old ?_ | with_reducible refine drew_old ?_)), Lib.hid (by repeat' (first | with_reducible exact RB9.out | with_reducible refine setOther ?_ (by dsimp only; omega) | with_reducible refine blk_old ?_ | with_reducible refine drew_old ?_)), Lib.hid (by repeat' (first | with_reducible exact IB9.out | with_reducible refine setOther ?_ (by dsimp only; omega) | with_reducible refine blk_old ?_ | with_reducible refine drew_old ?_)), Lib.hid (by repeat' (first | with_reducible exact St9.out | with_reducible refine setOther ?_ (by dsimp only; omega) | with_reducible refine blk_old ?_ | with_reducible refine drew_old ?_)), Lib.hid (by repeat' (first | with_reducible exact P9.out | with_reducible refine setOther ?_ (by dsimp only; omega) | with_reducible refine blk_old ?_ | with_reducible refine drew_old ?_)), Lib.hid (by repeat' (first | with_reducible exact S9.out | with_reducible refine setOther ?_ (by dsimp only; omega) | with_reducible refine blk_old ?_ | with_reducible refine drew_old ?_)), Lib.hid (by repeat' (first | with_reducible exact N9.out | with_reducible refine setOther ?_ (by dsimp only; omega) | with_reducible refine blk_old ?_ | with_reducible refine drew_old ?_))⟩
                  refine AllReadyH.cons (o := { dst := some 14, op := Go.Op.alloc 29, type := 0, pos := "law.go:270", after := #[], guard := none }) rfl (fun K hK => ?_) AllReadyH.nil
                  go_simp
                  refine hK.out _ _ ?_ (fun hH1 => ?_)
                  · (try dsimp only); exact ⟨(by first | exact cell_alloc x0 | exact cell_alloc (cell_drew x0)), (by first | exact cell_alloc k0 | exact cell_alloc (cell_drew k0)), (by first | exact cell_alloc k1 | exact cell_alloc (cell_drew k1))⟩
                  clear hK K
                  clear hH0
                  try simp only [Act.put, List.setIfInBounds_toArray, List.set_cons_zero, List.set_cons_succ]
                  refine wpAnyH_ready (rs := [6]) (by kernel_rfl) (by simp) ?_
                  refine AllReadyH.cons (o := { dst := some 75, op := Go.Op.call { callee := Go.Callee.value (Go.Operand.func 10), args := #[Go.Operand.tmp 69, Go.Operand.tmp 74], argTypes := #[22, 29] }, type := 30, pos := "law.go:270", after := #[{ on := 0, ground := Go.Ground.data }, { on := 5, ground := Go.Ground.data }], guard := none }) rfl (fun K hK => ?_) AllReadyH.nil
                  go_simp
                  refine (HAT9.out _ (by (repeat' (first | with_reducible exact Below.refl _ _ | with_reducible assumption | with_reducible refine Below.drew ?_ | with_reducible refine below_drewN ?_ _ | with_reducible refine Below.setCell ?_ ?_ _ | with_reducible refine Below.alloc ?_ ?_ _ | omega | (simp; done) | (simp; omega))))).mono ?_
                  rintro e w21 ⟨⟨n', d', c9, rfl, hr⟩, hb21⟩
                  rw [HAA.out] at hr
                  obtain ⟨rfl, rfl, rfl⟩ := hr
                  replace x0 : w21.cell? ⟨w.heap.size, 0, none⟩ = some (.slice (some ⟨gr, off, none⟩) s.length c) := cellOf hb21 (by first | exact x0 | exact cell_drew x0 | exact cell_alloc (cell_drew x0) | exact cell_alloc x0)
                  replace k0 : w21.cell? ⟨gr, off + xk * 4, none⟩ = some (.int .i64 n1) := cellOf hb21 (by first | exact k0 | exact cell_drew k0 | exact cell_alloc (cell_drew k0) | exact cell_alloc k0)
                  replace k1 : w21.cell? ⟨gr, off + xk * 4 + 1, none⟩ = some (.int .i64 d1) := cellOf hb21 (by first | exact k1 | exact cell_drew k1 | exact cell_alloc (cell_drew k1) | exact cell_alloc k1)
                  have hw21 : Below w.heap.size w w21 := stepH (by (repeat' (first | with_reducible exact Below.refl _ _ | with_reducible assumption | with_reducible refine Below.drew ?_ | with_reducible refine below_drewN ?_ _ | with_reducible refine Below.setCell ?_ ?_ _ | with_reducible refine Below.alloc ?_ ?_ _ | omega | (simp; done) | (simp; omega)))) hb21
                  have ho21 : OnlyL [ib] wq w21 := OnlyL.step (by (repeat' (first | with_reducible exact OnlyL.refl _ _ | with_reducible assumption | with_reducible refine OnlyL.drew ?_ | with_reducible refine OnlyL.drewN ?_ _ | with_reducible refine OnlyL.setCell ?_ ?_ _ | with_reducible refine OnlyL.alloc ?_ _ | omega | (simp; done) | (simp; omega)))) hb21
                  have zo21 := ho21.size
                  replace R9 := keepH hb21 (by first | with_reducible exact drew_old R9.out | with_reducible exact blk_old (drew_old R9.out) | with_reducible exact drew_old (blk_old R9.out) | with_reducible exact blk_old R9.out)
                  replace RB9 := keepH hb21 (by first | with_reducible exact drew_old RB9.out | with_reducible exact blk_old (drew_old RB9.out) | with_reducible exact drew_old (blk_old RB9.out) | with_reducible exact blk_old RB9.out)
                  replace IB9 := keepH hb21 (by first | with_reducible exact drew_old IB9.out | with_reducible exact blk_old (drew_old IB9.out) | with_reducible exact drew_old (blk_old IB9.out) | with_reducible exact blk_old IB9.out)
                  replace St9 := keepH hb21 (by first | with_reducible exact drew_old St9.out | with_reducible exact blk_old (drew_old St9.out) | with_reducible exact drew_old (blk_old St9.out) | with_reducible exact blk_old St9.out)
                  replace P9 := keepH hb21 (by first | with_reducible exact drew_old P9.out | with_reducible exact blk_old (drew_old P9.out) | with_reducible exact drew_old (blk_old P9.out) | with_reducible exact blk_old P9.out)
                  replace S9 := keepH hb21 (by first | with_reducible exact drew_old S9.out | with_reducible exact blk_old (drew_old S9.out) | with_reducible exact drew_old (blk_old S9.out) | with_reducible exact blk_old S9.out)
                  replace N9 := keepH hb21 (by first | with_reducible exact drew_old N9.out | with_reducible exact blk_old (drew_old N9.out) | with_reducible exact drew_old (blk_old N9.out) | with_reducible exact blk_old N9.out)
                  have NBk := keepH hb21 (by with_reducible first | exact blk_new rfl | exact drew_old (blk_new rfl))
                  have cNB := cellH NBk
                  have fNB := frozH NBk
                  have lNB := lt_of_H NBk
                  have lR9 := lt_of_H R9
                  have lRB9 := lt_of_H RB9
                  have lIB9 := lt_of_H IB9
                  have lSt9 := lt_of_H St9
                  have lP9 := lt_of_H P9
                  have lS9 := lt_of_H S9
                  have lN9 := lt_of_H N9
                  have lg := cell_lt k0
                  go_wp2_with fail
                  refine hK.out _ _ ?_ (fun hH2 => ?_)
                  · (try dsimp only); exact ⟨x0, k0, k1⟩
                  clear hK K
                  clear hH1
                  try simp only [Act.put, List.setIfInBounds_toArray, List.set_cons_zero, List.set_cons_succ]
                  refine wpAnyH_take (i := 7) (oi := { dst := some 68, op := Go.Op.move (Go.Operand.tmp 75), type := 30, pos := "law.go:270", after := #[{ on := 6, ground := Go.Ground.data }], guard := none }) (v := ?_) rfl (by kernel_rfl) (by kernel_rfl) (by kernel_rfl) (fun _ _ _ h => h) (Or.inl ⟨by rfl, ?_⟩) (by assumption) ?_
                  rotate_left
                  · intro wq hSw; (try dsimp only at hSw); go_simp; (try with_reducible rfl)
                  try simp only [Act.put, List.setIfInBounds_toArray, List.set_cons_zero, List.set_cons_succ]
                  refine wpAnyH_take (i := 8) (oi := { dst := some 76, op := Go.Op.extract (Go.Operand.tmp 68) 0, type := 29, pos := "law.go:270", after := #[{ on := 7, ground := Go.Ground.data }], guard := none }) (v := ?_) rfl (by kernel_rfl) (by kernel_rfl) (by kernel_rfl) (fun _ _ _ h => h) (Or.inl ⟨by rfl, ?_⟩) (by assumption) ?_
                  rotate_left
                  · intro wq hSw; (try dsimp only at hSw); go_simp; (try with_reducible rfl)
                  try simp only [Act.put, List.setIfInBounds_toArray, List.set_cons_zero, List.set_cons_succ]
                  refine wpAnyH_take (i := 9) (oi := { dst := some 77, op := Go.Op.extract (Go.Operand.tmp 68) 1, type := 3, pos := "law.go:270", after := #[{ on := 7, ground := Go.Ground.data }, { on := 11, ground := Go.Ground.gcOnly Go.Departure.lateStores }], guard := none }) (v := ?_) rfl (by kernel_rfl) (by kernel_rfl) (by kernel_rfl) (fun _ _ _ h => h) (Or.inl ⟨by rfl, ?_⟩) (by assumption) ?_
                  rotate_left
                  · intro wq hSw; (try dsimp only at hSw); go_simp; (try with_reducible rfl)
                  try simp only [Act.put, List.setIfInBounds_toArray, List.set_cons_zero, List.set_cons_succ]
                  refine wpAnyH_ready (rs := [11]) (by kernel_rfl) (by simp) ?_
                  refine AllReadyH.cons (o := { dst := none, op := Go.Op.store 29 (Go.Operand.tmp 14) (Go.Operand.tmp 76), type := 0, pos := "law.go:270", after := #[{ on := 10, ground := Go.Ground.data }, { on := 8, ground := Go.Ground.data }, { on := 6, ground := Go.Ground.chain }, { on := 0, ground := Go.Ground.phase }, { on := 1, ground := Go.Ground.phase }, { on := 2, ground := Go.Ground.phase }, { on := 3, ground := Go.Ground.phase }, { on := 4, ground := Go.Ground.phase }, { on := 5, ground := Go.Ground.phase }, { on := 6, ground := Go.Ground.phase }, { on := 7, ground := Go.Ground.phase }, { on := 8, ground := Go.Ground.phase }, { on := 9, ground := Go.Ground.textOnly Go.Departure.lateStores }, { on := 10, ground := Go.Ground.phase }], guard := none }) rfl (fun K hK => ?_) AllReadyH.nil
                  go_simp
                  refine hK.out _ _ ?_ (fun hH3 => ?_)
                  · (try dsimp only); exact ⟨(by repeat (first | exact x0 | refine cell_set ?_ (by first | assumption | (dsimp only; assumption) | (dsimp only; omega)) | refine cell_alloc ?_ | refine cell_drew ?_)), (by repeat (first | exact k0 | refine cell_set ?_ (by first | assumption | (dsimp only; assumption) | (dsimp only; omega)) | refine cell_alloc ?_ | refine cell_drew ?_)), (by repeat (first | exact k1 | refine cell_set ?_ (by first | assumption | (dsimp only; assumption) | (dsimp only; omega)) | refine cell_alloc ?_ | refine cell_drew ?_))⟩
                  clear hK K
                  clear hH2
                  try simp only [Act.put, List.setIfInBounds_toArray, List.set_cons_zero, List.set_cons_succ]
                  refine wpAnyH_take (i := 12) (oi := { dst := some 15, op := Go.Op.assign (Go.Operand.tmp 77), type := 3, pos := "law.go:270", after := #[{ on := 9, ground := Go.Ground.data }, { on := 11, ground := Go.Ground.chain }, { on := 0, ground := Go.Ground.phase }, { on := 1, ground := Go.Ground.phase }, { on := 2, ground := Go.Ground.phase }, { on := 3, ground := Go.Ground.phase }, { on := 4, ground := Go.Ground.phase }, { on := 5, ground := Go.Ground.phase }, { on := 6, ground := Go.Ground.phase }, { on := 7, ground := Go.Ground.phase }, { on := 8, ground := Go.Ground.phase }, { on := 9, ground := Go.Ground.phase }, { on := 10, ground := Go.Ground.phase }, { on := 11, ground := Go.Ground.phase }], guard := none }) (v := ?_) rfl (by kernel_rfl) (by kernel_rfl) (by kernel_rfl) (fun _ _ _ h => h) (Or.inl ⟨by rfl, ?_⟩) (by assumption) ?_
                  rotate_left
                  · intro wq hSw; (try dsimp only at hSw); go_simp; (try with_reducible rfl)
                  try simp only [Act.put, List.setIfInBounds_toArray, List.set_cons_zero, List.set_cons_succ]
                  refine wpAnyH_done (by kernel_rfl) ?_ _
                  refine noOut_normal ?_
                  gi_wp2_with fail
                  gi_meet
                  exact ⟨_, rfl, (by (repeat' (first | with_reducible exact Below.refl _ _ | with_reducible assumption | with_reducible refine Below.drew ?_ | with_reducible refine below_drewN ?_ _ | with_reducible refine Below.setCell ?_ ?_ _ | with_reducible refine Below.alloc ?_ ?_ _ | omega | (simp; done) | (simp; omega)))), (by (repeat' (first | with_reducible exact OnlyL.refl _ _ | with_reducible assumption | with_reducible refine OnlyL.drew ?_ | with_reducible refine OnlyL.drewN ?_ _ | with_reducible refine OnlyL.setCell ?_ ?_ _ | with_reducible refine OnlyL.alloc ?_ _ | omega | (simp; done) | (simp; omega)))), (by first | with_reducible exact setH2 NBk.out | exact blk_new rfl), Lib.hid (by repeat' (first | with_reducible exact R9.out | with_reducible refine setOther ?_ (by dsimp only; omega) | with_reducible refine blk_old ?_ | with_reducible refine drew_old ?_)), Lib.hid (by repeat' (first | with_reducible exact RB9.out | with_reducible refine setOther ?_ (by dsimp only; omega) | with_reducible refine blk_old ?_ | with_reducible refine drew_old ?_)), Lib.hid (by repeat' (first | with_reducible exact IB9.out | with_reducible refine setOther ?_ (by dsimp only; omega) | with_reducible refine blk_old ?_ | with_reducible refine drew_old ?_)), Lib.hid (by repeat' (first | with_reducible exact St9.out | with_reducible refine setOther ?_ (by dsimp only; omega) | with_reducible refine blk_old ?_ | with_reducible refine drew_old ?_)), Lib.hid (by repeat' (first | with_reducible exact P9.out | with_reducible refine setOther ?_ (by dsimp only; omega) | with_reducible refine blk_old ?_ | with_reducible refine drew_old ?_)), Lib.hid (by repeat' (first | with_reducible exact S9.out | with_reducible refine setOther ?_ (by dsimp only; omega) | with_reducible refine blk_old ?_ | with_reducible refine drew_old ?_)), Lib.hid (by repeat' (first | with_reducible exact N9.out | with_reducible refine setOther ?_ (by dsimp only; omega) | with_reducible refine blk_old ?_ | with_reducible refine drew_old ?_))⟩
              case rest =>
                as_aux_lemma =>
                  clear hoZ hw9 hx9 R9 RB9 IB9 St9 P9 S9 N9 k0 k1 x0 zo9
                  obtain ⟨gy, rfl, hw9, hoZ, Y, R9, RB9, IB9, St9, P9, S9, N9⟩ := hcut
                  obtain ⟨wy, rfl⟩ : ∃ x : World, x = wc := ⟨_, rfl⟩
                  have zo9 := hoZ.size
                  have cY := cellH Y
                  have cP := cellH P9
                  gi_wp2_with fail
                  first | refine round_open ?_ | refine round_open2 ?_ | refine round_open3 ?_ | refine round_open4 ?_
                  by_cases hxq : xq = pq
                  · refine (sameB_is _ _ _ _ true _ (by rw [hxq]; simp)).mono ?_
                    rintro e wt ⟨rfl, hbt⟩
                    replace hoZ : OnlyL [ib] wq wt := OnlyL.step hoZ hbt
                    replace hw9 : Below w.heap.size w wt := stepH hw9 hbt
                    replace R9 := keepH hbt R9.out
                    replace RB9 := keepH hbt RB9.out
                    replace IB9 := keepH hbt IB9.out
                    replace St9 := keepH hbt St9.out
                    replace P9 := keepH hbt P9.out
                    replace S9 := keepH hbt S9.out
                    replace N9 := keepH hbt N9.out
                    clear hbt cY cP Y
                    have zo9 := hoZ.size

                    have HLI : Hid (TiI (topsL s 1) ib w7 (pre ++ [(xk, xq)]) wt) := by
                      refine ⟨?_, HI2.out.trans (OnlyL.below hoZ (by omega) (fun k hk => by simp only [List.mem_singleton] at hk; omega)), ?_⟩
                      · rw [show ((pre ++ [(xk, xq)]).length : Int) = (pre.length : Int) + 1 by simp]
                        exact IB9.out
                      · rw [List.length_append, List.length_singleton, take_snoc HP.out, ← HI3.out, HPK.out, hxq]
                    have HKF := Lib.hid (OnlyL.from hoZ w7.heap.size HCI.out)
                    have HKB : Hid (KeepR w.heap.size w1.heap.size w2.heap.size wq wt) := OnlyL.keepR hoZ (by omega) (by omega) (fun k hk => by simp only [List.mem_singleton] at hk; omega)
                    have cB9 := cellH RB9
                    have cT9 := cellH St9
                    have cI9 := cellH IB9

                    gi_wp2_with fail
                    exact ⟨HKF.out, HKB.out, HLI.out⟩
                  · refine (sameB_is _ _ _ _ false _ (by
                      rw [Bool.and_eq_false_imp]
                      intro h
                      rw [beq_eq_false_iff_ne]
                      exact fun h2 => hxq (Rat.ext (by simpa using h) (by exact_mod_cast h2)))).mono ?_
                    rintro e wt ⟨rfl, hbt⟩
                    replace hoZ : OnlyL [ib] wq wt := OnlyL.step hoZ hbt
                    replace hw9 : Below w.heap.size w wt := stepH hw9 hbt
                    replace R9 := keepH hbt R9.out
                    replace RB9 := keepH hbt RB9.out
                    replace IB9 := keepH hbt IB9.out
                    replace St9 := keepH hbt St9.out
                    replace P9 := keepH hbt P9.out
                    replace S9 := keepH hbt S9.out
                    replace N9 := keepH hbt N9.out
                    clear hbt cY cP Y
                    have zo9 := hoZ.size

                    have cR9 := cellH R9
                    have fR9 := frozH R9
                    gi_wp2_with fail
                    exact ⟨OnlyL.from (L := [ib, w.heap.size + 1 + 1]) (OnlyL.setCell (OnlyL.wider hoZ (by simp)) (.inl (by simp)) _) _ HCL.out, .inl (fun h => hxq (congrArg Prod.snd (prefix_one h HP.out)))⟩
            · have hk8 : ((xk : Int) != (pre.length : Int) + 1) = true := by rw [bne_iff_ne]; omega
              have cR9 := cellH R9
              have fR9 := frozH R9
              gi_wp2_with fail
              exact ⟨OnlyL.from (L := [ib, w.heap.size + 1 + 1]) (OnlyL.setCell (OnlyL.wider hoZ (by simp)) (.inl (by simp)) _) _ HCL.out, .inl (fun h => by have h9 := congrArg Prod.fst (prefix_one h HP.out); dsimp only at h9; omega)⟩
          · have hmx : decide (max (n0 : Int) 1 ≤ (pre.length : Int) + 1) = true := decide_eq_true (by have := HN9.out; omega)
            have cR9 := cellH R9
            have fR9 := frozH R9
            gi_wp2_with fail
            exact ⟨OnlyL.from (L := [ib, w.heap.size + 1 + 1]) (OnlyL.setCell (OnlyL.wider hoZ (by simp)) (.inl (by simp)) _) _ HCL.out, .inl (fun h => by have h9 := prefix_len h; have := HTL.out; omega)⟩
        case done1 =>
          intro D1 xs W hD1 hxs hI hK
          rw [hxs] at hI
          obtain ⟨i1, i2, i3⟩ := hI
          rw [HTL.out] at i1
          have HKD := Lib.hid hK
          subst ha
          have zq := i2.size
          have St8 : Hid (W.heap[w.heap.size + 1]? = some (.cells #[.int .i64 stop] 3 (0, 0))) := (i2.block _ l7St).trans St7.out
          have R8 : Hid (W.heap[w.heap.size + 1 + 1]? = some (.cells #[.bool false] 4 (0, 0))) := (i2.block _ l7R).trans R7.out
          have S8 : Hid (W.heap[w.heap.size]? = some (.cells #[.slice A s.length c] 22 (0, 0))) := (i2.block _ l7S).trans S7.out
          have N8 : Hid (W.heap[w2.heap.size]? = some (.cells #[.int .i64 n0] 3 (0, 0))) := (i2.block _ l7N).trans N7.out
          have BX8 : Hid (W.heap[Bx]? = some (.cells #[.slice A2 s.length c2] 22 (0, 0))) := (i2.block _ l7BX).trans BX7.out
          have RB8 : Hid (W.heap[rb9]? = some (.cells #[.int .i64 1] 3 (0, 0))) := (i2.block _ l7RB).trans RB7.out
          have hw8 : Below w.heap.size w W := hw7.trans (i2.mono zw6)
          have hx8 : Below w2.heap.size w2 W := hx7.trans (i2.mono zx6)
          have KD08 := Lib.hid ((i2.block _ (by have := lD0; omega)).trans KD07.out)
          have IB8 : Hid (W.heap[ib]? = some (.cells #[.int .i64 TL] 3 (0, 0))) := i1
          have cSt := cellH St8
          have cN := cellH N8
          have cRB := cellH RB8
          have cIB := cellH IB8
          have kwn : IntKind.i64.wrap ((n0 : Int) - 1) = (n0 : Int) - 1 := by rw [IntKind.wrap_i64]; have := HN9.out; omega
          have e6 : ((TL : Int) != max ((n0 : Int) - 1) 0) = false := by rw [bne_eq_false_iff_eq]; have := HN9.out; omega
          clear i1 i2 i3 hK hxs
          gi_wp2_with fail
          clear kwn e6
          have RB9 : Hid ((W.alloc (.cells #[.int .i64 2] 3)).heap[W.heap.size]? = some (.cells #[.int .i64 2] 3 (0, 0))) := blk_new rfl
          have St6 := Lib.hid (blk_old (o := .cells #[.int .i64 2] 3) St8.out)
          have R6 := Lib.hid (blk_old (o := .cells #[.int .i64 2] 3) R8.out)
          have S6 := Lib.hid (blk_old (o := .cells #[.int .i64 2] 3) S8.out)
          have N6 := Lib.hid (blk_old (o := .cells #[.int .i64 2] 3) N8.out)
          have BX6 := Lib.hid (blk_old (o := .cells #[.int .i64 2] 3) BX8.out)
          have KD1 := Lib.hid (blk_old (o := .cells #[.int .i64 2] 3) HKD.out)
          have KD0b := Lib.hid (blk_old (o := .cells #[.int .i64 2] 3) KD08.out)
          have zw8 := hw8.size
          have zx8 := hx8.size
          have hw6 : Below w.heap.size w (W.alloc (.cells #[.int .i64 2] 3)) := by (repeat' (first | with_reducible exact Below.refl _ _ | with_reducible assumption | with_reducible refine Below.drew ?_ | with_reducible refine below_drewN ?_ _ | with_reducible refine Below.setCell ?_ ?_ _ | with_reducible refine Below.alloc ?_ ?_ _ | omega | (simp; done) | (simp; omega)))
          have hx6 : Below w2.heap.size w2 (W.alloc (.cells #[.int .i64 2] 3)) := by (repeat' (first | with_reducible exact Below.refl _ _ | with_reducible assumption | with_reducible refine Below.drew ?_ | with_reducible refine below_drewN ?_ _ | with_reducible refine Below.setCell ?_ ?_ _ | with_reducible refine Below.alloc ?_ ?_ _ | omega | (simp; done) | (simp; omega)))
          obtain ⟨rb9, hrb⟩ : ∃ rb9, W.heap.size = rb9 := ⟨_, rfl⟩
          clear St8 R8 S8 N8 BX8 RB8 IB8 HKD hw8 hx8 cSt cRB cIB cN St7 R7 S7 N7 BX7 RB7 IB7 hw7 hx7 HA7
          generalize (W.alloc (.cells #[.int .i64 2] 3)) = w69 at *
          rw [hrb] at RB9 ⊢
          rw [hrb] at zw8 zx8 zq
          clear hrb
          have cRB := cellH RB9
          have cR := cellH R6
          have fzR := frozH R6
          rw [roundsIn_succ]
          gi_wp2_with fail

          have k1 : (w69.setCell ⟨w.heap.size + 1 + 1, 0, none⟩ (.bool true)).heap[D1]? = some (.deferred (some [])) := (KeepsOthers.setCell _ _ _).same D1 _ KD1.out rfl
          have k0 : ((w69.setCell ⟨w.heap.size + 1 + 1, 0, none⟩ (.bool true)).putObj D1 (.deferred none)).heap[D0]? = some (.deferred (some [])) := (World.putObj_heap_other (by omega)).trans ((KeepsOthers.setCell _ _ _).same D0 _ KD0b.out rfl)
          have HR : Hid ((((w69.setCell ⟨w.heap.size + 1 + 1, 0, none⟩ (.bool true)).putObj D1 (.deferred none)).putObj D0 (.deferred none)).heap[w.heap.size + 1 + 1]? = some (.cells #[.bool true] 4 (0, 0))) := (World.putObj_heap_other (by omega)).trans ((World.putObj_heap_other (by omega)).trans (setBox R6.out _))
          have hB : Below w.heap.size w (((w69.setCell ⟨w.heap.size + 1 + 1, 0, none⟩ (.bool true)).putObj D1 (.deferred none)).putObj D0 (.deferred none)) := Below.trans (Below.trans (hw6.setCell (by dsimp only; omega) _) (belowK_b (w := w) (Nat.le_refl _) _ D1 _ _ (by omega) k1 rfl rfl)) (belowK_b (w := w) (Nat.le_refl _) _ D0 _ _ (by omega) k0 rfl rfl)
          refine ⟨by simp, .inl ⟨_, _, rfl, run_takeDeferred k1, ⟨by simp, .inl ⟨_, _, rfl, run_takeDeferred k0, ?_⟩⟩⟩⟩
          clear k1 k0
          generalize (((w69.setCell ⟨w.heap.size + 1 + 1, 0, none⟩ (.bool true)).putObj D1 (.deferred none)).putObj D0 (.deferred none)) = wz at HR hB ⊢
          have c4 := cellH HR
          exact ⟨_, (by simp [results, Tryd.results3, go_sem, c4]), rfl, hB⟩

        case stop1 =>
          rintro D1 c pre W hD hpre hX hK
          rcases hX with h | ⟨h1, _, _⟩
          · exact absurd hpre h
          · omega

      case stop =>
        rintro D0 c9 pre W hD0 hpre hX hK
        rcases hX with h | ⟨hst, rfl, i1, i2, i3⟩
        · exact absurd hpre h
        · subst ha
          have HKD := Lib.hid hK
          have zq := i2.size
          have St8 : Hid (W.heap[w.heap.size + 1]? = some (.cells #[.int .i64 stop] 3 (0, 0))) := (i2.block _ l7St).trans St7.out
          have R8 : Hid (W.heap[w.heap.size + 1 + 1]? = some (.cells #[.bool false] 4 (0, 0))) := (i2.block _ l7R).trans R7.out
          have S8 : Hid (W.heap[w.heap.size]? = some (.cells #[.slice A s.length c] 22 (0, 0))) := (i2.block _ l7S).trans S7.out
          have N8 : Hid (W.heap[w2.heap.size]? = some (.cells #[.int .i64 n0] 3 (0, 0))) := (i2.block _ l7N).trans N7.out
          have BX8 : Hid (W.heap[Bx]? = some (.cells #[.slice A2 s.length c2] 22 (0, 0))) := (i2.block _ l7BX).trans BX7.out
          have RB8 : Hid (W.heap[rb]? = some (.cells #[.int .i64 0] 3 (0, 0))) := (i2.block _ l7RB).trans RB7.out
          have hw8 : Below w.heap.size w W := hw7.trans (i2.mono zw6)
          have hx8 : Below w2.heap.size w2 W := hx7.trans (i2.mono zx6)
          have IB8 : Hid (W.heap[ib]? = some (.cells #[.int .i64 pre.length] 3 (0, 0))) := i1
          have cSt := cellH St8
          have cN := cellH N8
          have cRB := cellH RB8
          have kwn : IntKind.i64.wrap ((n0 : Int) - 1) = (n0 : Int) - 1 := by rw [IntKind.wrap_i64]; have := HN9.out; omega
          clear i1 i2 i3 hK hpre
          by_cases hpl : pre.length = TL
          · rw [hpl] at IB8
            have cIB := cellH IB8
            have e6 : ((TL : Int) != max ((n0 : Int) - 1) 0) = false := by rw [bne_eq_false_iff_eq]; have := HN9.out; omega
            clear hst hpl
            gi_wp2_with fail
            clear kwn e6
            have RB9 : Hid ((W.alloc (.cells #[.int .i64 1] 3)).heap[W.heap.size]? = some (.cells #[.int .i64 1] 3 (0, 0))) := blk_new rfl
            have St6 := Lib.hid (blk_old (o := .cells #[.int .i64 1] 3) St8.out)
            have R6 := Lib.hid (blk_old (o := .cells #[.int .i64 1] 3) R8.out)
            have S6 := Lib.hid (blk_old (o := .cells #[.int .i64 1] 3) S8.out)
            have N6 := Lib.hid (blk_old (o := .cells #[.int .i64 1] 3) N8.out)
            have BX6 := Lib.hid (blk_old (o := .cells #[.int .i64 1] 3) BX8.out)
            have KD0 := Lib.hid (blk_old (o := .cells #[.int .i64 1] 3) HKD.out)

            have zw8 := hw8.size
            have zx8 := hx8.size
            have hw6 : Below w.heap.size w (W.alloc (.cells #[.int .i64 1] 3)) := by (repeat' (first | with_reducible exact Below.refl _ _ | with_reducible assumption | with_reducible refine Below.drew ?_ | with_reducible refine below_drewN ?_ _ | with_reducible refine Below.setCell ?_ ?_ _ | with_reducible refine Below.alloc ?_ ?_ _ | omega | (simp; done) | (simp; omega)))
            have hx6 : Below w2.heap.size w2 (W.alloc (.cells #[.int .i64 1] 3)) := by (repeat' (first | with_reducible exact Below.refl _ _ | with_reducible assumption | with_reducible refine Below.drew ?_ | with_reducible refine below_drewN ?_ _ | with_reducible refine Below.setCell ?_ ?_ _ | with_reducible refine Below.alloc ?_ ?_ _ | omega | (simp; done) | (simp; omega)))
            obtain ⟨rb9, hrb⟩ : ∃ rb, W.heap.size = rb := ⟨_, rfl⟩
            clear St8 R8 S8 N8 BX8 RB8 IB8 HKD hw8 hx8 cSt cRB cIB cN St7 R7 S7 N7 BX7 RB7 IB7 hw7 hx7 HA7
            generalize (W.alloc (.cells #[.int .i64 1] 3)) = w69 at *
            rw [hrb] at RB9 ⊢
            rw [hrb] at zw8 zx8 zq
            clear hrb
            have cRB := cellH RB9

            rw [roundsIn_succ]
            gi_wp2_with fail
            have IB7 : Hid ((w69.alloc (.cells #[.int .i64 0] 3)).heap[w69.heap.size]? = some (.cells #[.int .i64 0] 3 (0, 0))) := blk_new rfl
            have St7 := Lib.hid (blk_old (o := .cells #[.int .i64 0] 3) St6.out)
            have R7 := Lib.hid (blk_old (o := .cells #[.int .i64 0] 3) R6.out)
            have S7 := Lib.hid (blk_old (o := .cells #[.int .i64 0] 3) S6.out)
            have N7 := Lib.hid (blk_old (o := .cells #[.int .i64 0] 3) N6.out)
            have BX7 := Lib.hid (blk_old (o := .cells #[.int .i64 0] 3) BX6.out)
            have RB7 := Lib.hid (blk_old (o := .cells #[.int .i64 0] 3) RB9.out)
            have KD07 := Lib.hid (blk_old (o := .cells #[.int .i64 0] 3) KD0.out)
            have lD0 : D0 < w69.heap.size := (Array.getElem?_eq_some_iff.1 KD0.out).1
            have zw6 := hw6.size
            have zx6 := hx6.size
            have hw7 : Below w.heap.size w (w69.alloc (.cells #[.int .i64 0] 3)) := by (repeat' (first | with_reducible exact Below.refl _ _ | with_reducible assumption | with_reducible refine Below.drew ?_ | with_reducible refine below_drewN ?_ _ | with_reducible refine Below.setCell ?_ ?_ _ | with_reducible refine Below.alloc ?_ ?_ _ | omega | (simp; done) | (simp; omega)))
            have hx7 : Below w2.heap.size w2 (w69.alloc (.cells #[.int .i64 0] 3)) := by (repeat' (first | with_reducible exact Below.refl _ _ | with_reducible assumption | with_reducible refine Below.drew ?_ | with_reducible refine below_drewN ?_ _ | with_reducible refine Below.setCell ?_ ?_ _ | with_reducible refine Below.alloc ?_ ?_ _ | omega | (simp; done) | (simp; omega)))
            have hu7 : w69.heap.size < (w69.alloc (.cells #[.int .i64 0] 3)).heap.size := by simp
            have l7St := lt_of_H St6
            have l7R := lt_of_H R6
            have l7S := lt_of_H S6
            have l7N := lt_of_H N6
            have l7BX := lt_of_H BX6
            have l7RB := lt_of_H RB9
            obtain ⟨ib, hib⟩ : ∃ ib, w69.heap.size = ib := ⟨_, rfl⟩
            clear St6 R6 S6 N6 BX6 RB9 hw6 hx6 cRB
            generalize (w69.alloc (.cells #[.int .i64 0] 3)) = w7 at *
            rw [hib] at IB7 hu7 l7St l7R l7S l7N l7BX l7RB zw6 zx6 lD0 ⊢
            clear hib
            have HA7 : RowAt encR 4 w7 w7.heap.size A2 s := (HROW.out.below hx7 (Nat.le_refl _)).more hx7.size
            generalize ha : Act.mk _ _ = a0
            refine wpIn_rangeFunc_ownH rfl (by decide) (gf := 53) (lb := #[.pointer (some ⟨Bx, 0, none⟩)]) (by rw [← ha]; rfl) trivial (enters_of Tryd.func53 (by kernel_rfl) rfl)
              (tops_stops s A2 c2 E w (by omega) HI.out HE.out (3 - 1) w1.heap.size Bx w2.heap.size ⟨hBx, hlbx⟩ HA2.out w7 hw7 (by omega) BX7 HA7)
              KeepR.trans (fun W l o o' hl h q1 q2 => keepR_b (m := w.heap.size) (lo := w1.heap.size) (hi := w2.heap.size) (w := w7) (by omega) (by omega) W l o o' hl h q1 q2) (Below.refl _ _) (fun x => rfl)
              (TiI (topsL s 1) ib w7) (TiX (topsL s 1) ib w7 (-1)) (TiI_own (Nat.le_of_lt hu7) (Nat.le_refl _)) (fun c => TiX_own c (Nat.le_of_lt hu7) (Nat.le_refl _)) ⟨IB7.out, Below.refl _ _, rfl⟩
              (fun x a' W => ∃ Bp, w7.heap.size ≤ Bp ∧ W.heap[Bp]? = some (.cells #[.int .i64 x.2.num, .int .i64 x.2.den] 29 (0, 0)) ∧ a' = { tmps := (((a0.tmps.setIfInBounds 55 (.int .i64 x.1)).setIfInBounds 56 (.agg #[.int .i64 x.2.num, .int .i64 x.2.den])).setIfInBounds 12 (.int .i64 x.1)).setIfInBounds 13 (.pointer (some ⟨Bp, 0, none⟩)), defers := [] })
              (fun x a' s W W' row hs hg hr => by obtain ⟨Bp, h2, h3, h4⟩ := hs; exact ⟨Bp, h2, ownBlk h3 hg hr, h4⟩) ?assign1 ?body1 ?done1 ?stop1
            case assign1 =>
              intro l9 pre x W K hI hK
              obtain ⟨i1, i2, i3⟩ := hI
              have zz := i2.size
              subst ha
              simp only [encT]
              gi_wp2_with fail
              have h9 := hK _ _ ((KeepsOthers.alloc W (.cells #[.int .i64 x.2.num, .int .i64 x.2.den] 29)).from _) (KeepR.ofBelow ((Below.refl _ _).alloc (Nat.le_refl _) _) (by omega) (by omega)) ⟨blk_old i1, i2.alloc (by omega) _, i3⟩ ⟨_, zz, blk_new rfl, rfl⟩
              simp only [List.setIfInBounds_toArray, List.set_cons_zero, List.set_cons_succ] at h9
              exact h9
            case body1 =>
              rintro l9 pre ⟨xk, xq⟩ a' wq hl9 ⟨rr, hrr⟩ ⟨i1, i2, i3⟩ ⟨Bp, p2, p3, rfl⟩ hlt
              subst ha
              try simp only [List.setIfInBounds_toArray, List.set_cons_zero, List.set_cons_succ]
              have zq := i2.size
              have St8 : Hid (wq.heap[w.heap.size + 1]? = some (.cells #[.int .i64 stop] 3 (0, 0))) := (i2.block _ l7St).trans St7.out
              have R8 : Hid (wq.heap[w.heap.size + 1 + 1]? = some (.cells #[.bool false] 4 (0, 0))) := (i2.block _ l7R).trans R7.out
              have S8 : Hid (wq.heap[w.heap.size]? = some (.cells #[.slice A s.length c] 22 (0, 0))) := (i2.block _ l7S).trans S7.out
              have N8 : Hid (wq.heap[w2.heap.size]? = some (.cells #[.int .i64 n0] 3 (0, 0))) := (i2.block _ l7N).trans N7.out
              have BX8 : Hid (wq.heap[Bx]? = some (.cells #[.slice A2 s.length c2] 22 (0, 0))) := (i2.block _ l7BX).trans BX7.out
              have RB8 : Hid (wq.heap[rb9]? = some (.cells #[.int .i64 1] 3 (0, 0))) := (i2.block _ l7RB).trans RB7.out
              have hw8 : Below w.heap.size w wq := hw7.trans (i2.mono zw6)
              have hx8 : Below w2.heap.size w2 wq := hx7.trans (i2.mono zx6)
              have IB8 : Hid (wq.heap[ib]? = some (.cells #[.int .i64 pre.length] 3 (0, 0))) := i1
              have P8 : Hid (wq.heap[Bp]? = some (.cells #[.int .i64 xq.num, .int .i64 xq.den] 29 (0, 0))) := p3
              have HI2 := Lib.hid i2
              have HI3 := Lib.hid i3
              clear i1 i2 i3 p3
              have HCL : Hid (∀ k ∈ [ib, w.heap.size + 1 + 1], ∃ cs t z, wq.heap[k]? = some (.cells cs t z)) := by
                intro k hk
                simp only [List.mem_cons, List.not_mem_nil, or_false] at hk
                rcases hk with rfl | rfl
                · exact ⟨_, _, _, IB8.out⟩
                · exact ⟨_, _, _, R8.out⟩
              have HCI : Hid (∀ k ∈ [ib], ∃ cs t z, wq.heap[k]? = some (.cells cs t z)) := fun k hk => HCL.out k (by simp only [List.mem_singleton] at hk; subst hk; simp)
              have hBp := lt_of_H P8
              have cI8 := cellH IB8
              have fI8 := frozH IB8
              have kw : IntKind.i64.wrap ((pre.length : Int) + 1) = (pre.length : Int) + 1 := by rw [IntKind.wrap_i64]; omega
              gi_upto_region 22 with fail
              obtain ⟨wz, hwz⟩ : ∃ wz, (wq.setCell ⟨ib, 0, none⟩ (.int .i64 ((pre.length : Int) + 1))) = wz := ⟨_, rfl⟩
              have hoZ : OnlyL [ib] wq wz := by rw [← hwz]; exact OnlyL.setCell (OnlyL.refl _ _) (.inl (by simp)) _
              have IB9 : Hid (wz.heap[ib]? = some (.cells #[.int .i64 ((pre.length : Int) + 1)] 3 (0, 0))) := by rw [← hwz]; exact setBox IB8.out _
              have St9 := Lib.hid ((show wz.heap[w.heap.size + 1]? = wq.heap[w.heap.size + 1]? by rw [← hwz]; exact setOther rfl (by show _ ≠ ib; omega)).trans St8.out)
              have R9 := Lib.hid ((show wz.heap[w.heap.size + 1 + 1]? = wq.heap[w.heap.size + 1 + 1]? by rw [← hwz]; exact setOther rfl (by show _ ≠ ib; omega)).trans R8.out)
              have S9 := Lib.hid ((show wz.heap[w.heap.size]? = wq.heap[w.heap.size]? by rw [← hwz]; exact setOther rfl (by show _ ≠ ib; omega)).trans S8.out)
              have N9 := Lib.hid ((show wz.heap[w2.heap.size]? = wq.heap[w2.heap.size]? by rw [← hwz]; exact setOther rfl (by show _ ≠ ib; omega)).trans N8.out)
              have RB9 := Lib.hid ((show wz.heap[rb9]? = wq.heap[rb9]? by rw [← hwz]; exact setOther rfl (by show _ ≠ ib; omega)).trans RB8.out)
              have P9 := Lib.hid ((show wz.heap[Bp]? = wq.heap[Bp]? by rw [← hwz]; exact setOther rfl (by show _ ≠ ib; omega)).trans P8.out)
              have hw9 : Below w.heap.size w wz := hw8.trans (hoZ.below (by omega) (fun k hk => by simp only [List.mem_singleton] at hk; omega))
              have hx9 : Below w2.heap.size w2 wz := hx8.trans (hoZ.below (by omega) (fun k hk => by simp only [List.mem_singleton] at hk; omega))
              have zo9 := hoZ.size
              rw [hwz]
              clear hwz cI8 fI8 St8 R8 S8 N8 BX8 RB8 IB8 P8 hw8 hx8
              have cI9 := cellH IB9
              have cN9 := cellH N9
              by_cases hT : pre.length < TL
              · obtain ⟨⟨pk, pq⟩, hp⟩ : ∃ p, (topsL s 1)[pre.length]? = some p := ⟨_, List.getElem?_eq_getElem (by have := HTL.out; omega)⟩
                obtain ⟨hpk, ⟨n1, d1, n2, d2⟩, hb, hat⟩ := topsL_at hp
                dsimp only at hpk hat
                have HP := Lib.hid hp
                have hmx : decide (max (n0 : Int) 1 ≤ (pre.length : Int) + 1) = false := decide_eq_false (by have := HN9.out; omega)
                clear hp
                by_cases hk9 : xk = pre.length + 1
                · have hk8 : ((xk : Int) != (pre.length : Int) + 1) = false := by rw [hk9]; simp
                  have hkk : (xk : Int) = (pre.length : Int) + 1 := by omega
                  rw [show 1 + pre.length = xk by omega] at hb hpk
                  gi_upto_region 24 with fail
                  have HPK := Lib.hid hpk
                  clear cI9 cN9 hmx hk8 hk9 hkk hpk
                  obtain ⟨gr, off, hAe, hgB, k0, k1, _, _⟩ := cells4 (HL.out.below hw9 (Nat.le_refl _)) hb
                  obtain ⟨⟨a1, a2⟩, ⟨a3, a4⟩, _⟩ := HI.out _ (List.mem_of_getElem? hb)
                  have hls := (List.getElem?_eq_some_iff.1 hb).1
                  dsimp only at a1 a2 a3 a4
                  subst hAe
                  replace k0 : wz.cell? ⟨gr, off + xk * 4, none⟩ = some (.int .i64 n1) := k0
                  replace k1 : wz.cell? ⟨gr, off + xk * 4 + 1, none⟩ = some (.int .i64 d1) := k1
                  have x0 : wz.cell? ⟨w.heap.size, 0, none⟩ = some (.slice (some ⟨gr, off, none⟩) s.length c) := cellH S9 0
                  have HAT9 := Lib.hid (fun w' (h : Below w.heap.size w w') => refAt15_any s (some ⟨gr, off, none⟩) c n1 d1 w' ((HL.out.below h (Nat.le_refl _)).more h.size) hm HI.out ⟨a1, a2⟩ ⟨a3, a4⟩)
                  have HAA := Lib.hid hat
                  clear hb hat
                  have i0 : (xk : Int) ≤ (s.length : Int) := by omega
                  have i1 : (xk : Int) < (s.length : Int) := by omega
                  have i2 : (0 : Int) ≤ (xk : Int) := by omega
                  have i3 : ((xk : Int)).toNat = xk := by omega
                  gi_cut [14] from 68 (fun s14 wx => ∃ g : Nat, s14 = .pointer (some ⟨g, 0, none⟩) ∧ Below w.heap.size w wx ∧ OnlyL [ib] wq wx ∧ Hid (wx.heap[g]? = some (.cells #[.int .i64 pq.num, .int .i64 pq.den] 29 (0, 0))) ∧ Hid (wx.heap[w.heap.size + 1 + 1]? = some (.cells #[.bool false] 4 (0, 0))) ∧ Hid (wx.heap[rb9]? = some (.cells #[.int .i64 1] 3 (0, 0))) ∧ Hid (wx.heap[ib]? = some (.cells #[.int .i64 ((pre.length : Int) + 1)] 3 (0, 0))) ∧ Hid (wx.heap[w.heap.size + 1]? = some (.cells #[.int .i64 stop] 3 (0, 0))) ∧ Hid (wx.heap[Bp]? = some (.cells #[.int .i64 xq.num, .int .i64 xq.den] 29 (0, 0))) ∧ Hid (wx.heap[w.heap.size]? = some (.cells #[.slice (some ⟨gr, off, none⟩) s.length c] 22 (0, 0))) ∧ Hid (wx.heap[w2.heap.size]? = some (.cells #[.int .i64 n0] 3 (0, 0))))
                  case first =>
                    as_aux_lemma =>
                      refine round_held_drew (S := fun w' => w'.cell? ⟨w.heap.size, 0, none⟩ = some (.slice (some ⟨gr, off, none⟩) s.length c) ∧ w'.cell? ⟨gr, off + xk * 4, none⟩ = some (.int .i64 n1) ∧ w'.cell? ⟨gr, off + xk * 4 + 1, none⟩ = some (.int .i64 d1)) (by kernel_rfl) (by kernel_rfl) ?_ (fun hH0 => ?_)
                      · exact ⟨x0, k0, k1⟩
                      refine wpAnyH_take (i := 0) (oi := { dst := some 69, op := Go.Op.load 22 (Go.Operand.tmp 2), type := 22, pos := "law.go:270", after := #[], guard := none }) (v := ?_) rfl (by kernel_rfl) (by kernel_rfl) (by kernel_rfl) (fun _ _ _ h => h) (Or.inl ⟨by rfl, ?_⟩) (by assumption) ?_
                      rotate_left
                      · intro wq hSw; (try dsimp only at hSw); go_simp; (try with_reducible rfl)
                      try simp only [Act.put, List.setIfInBounds_toArray, List.set_cons_zero, List.set_cons_succ]
                      refine wpAnyH_take (i := 1) (oi := { dst := some 70, op := Go.Op.load 22 (Go.Operand.tmp 2), type := 22, pos := "law.go:270", after := #[], guard := none }) (v := ?_) rfl (by kernel_rfl) (by kernel_rfl) (by kernel_rfl) (fun _ _ _ h => h) (Or.inl ⟨by rfl, ?_⟩) (by assumption) ?_
                      rotate_left
                      · intro wq hSw; (try dsimp only at hSw); go_simp; (try with_reducible rfl)
                      try simp only [Act.put, List.setIfInBounds_toArray, List.set_cons_zero, List.set_cons_succ]
                      refine wpAnyH_take (i := 2) (oi := { dst := some 71, op := Go.Op.move (Go.Operand.tmp 12), type := 3, pos := "law.go:270", after := #[], guard := none }) (v := ?_) rfl (by kernel_rfl) (by kernel_rfl) (by kernel_rfl) (fun _ _ _ h => h) (Or.inl ⟨by rfl, ?_⟩) (by assumption) ?_
                      rotate_left
                      · intro wq hSw; (try dsimp only at hSw); go_simp; (try with_reducible rfl)
                      try simp only [Act.put, List.setIfInBounds_toArray, List.set_cons_zero, List.set_cons_succ]
                      refine wpAnyH_take (i := 3) (oi := { dst := some 72, op := Go.Op.indexAddr 22 (Go.Operand.tmp 70) (Go.Operand.tmp 71), type := 0, pos := "law.go:270", after := #[{ on := 1, ground := Go.Ground.data }, { on := 2, ground := Go.Ground.data }], guard := none }) (v := ?_) rfl (by kernel_rfl) (by kernel_rfl) (by kernel_rfl) (fun _ _ _ h => h) (Or.inl ⟨by rfl, ?_⟩) (by assumption) ?_
                      rotate_left
                      · intro wq hSw; (try dsimp only at hSw); go_simp; (try with_reducible rfl)
                      try simp only [Act.put, List.setIfInBounds_toArray, List.set_cons_zero, List.set_cons_succ]
                      refine wpAnyH_take (i := 4) (oi := { dst := some 73, op := Go.Op.fieldAddr 33 (Go.Operand.tmp 72) 0, type := 0, pos := "law.go:270", after := #[{ on := 3, ground := Go.Ground.data }], guard := none }) (v := ?_) rfl (by kernel_rfl) (by kernel_rfl) (by kernel_rfl) (fun _ _ _ h => h) (Or.inl ⟨by rfl, ?_⟩) (by assumption) ?_
                      rotate_left
                      · intro wq hSw; (try dsimp only at hSw); go_simp; (try with_reducible rfl)
                      try simp only [Act.put, List.setIfInBounds_toArray, List.set_cons_zero, List.set_cons_succ]
                      refine wpAnyH_take (i := 5) (oi := { dst := some 74, op := Go.Op.load 29 (Go.Operand.tmp 73), type := 29, pos := "law.go:270", after := #[{ on := 4, ground := Go.Ground.data }], guard := none }) (v := ?_) rfl (by kernel_rfl) (by kernel_rfl) (by kernel_rfl) (fun _ _ _ h => h) (Or.inl ⟨by rfl, ?_⟩) (by assumption) ?_
                      rotate_left
                      · intro wq hSw; (try dsimp only at hSw); go_simp; (try with_reducible rfl)
                      try simp only [Act.put, List.setIfInBounds_toArray, List.set_cons_zero, List.set_cons_succ]
                      refine wpAnyH_ready (rs := [6, 10]) (by kernel_rfl) (by simp) ?_
                      refine AllReadyH.cons (o := { dst := some 75, op := Go.Op.call { callee := Go.Callee.value (Go.Operand.func 10), args := #[Go.Operand.tmp 69, Go.Operand.tmp 74], argTypes := #[22, 29] }, type := 30, pos := "law.go:270", after := #[{ on := 0, ground := Go.Ground.data }, { on := 5, ground := Go.Ground.data }], guard := none }) rfl (fun K hK => ?_) ?_
                      · skip
                        go_simp
                        refine (HAT9.out _ (by (repeat' (first | with_reducible exact Below.refl _ _ | with_reducible assumption | with_reducible refine Below.drew ?_ | with_reducible refine below_drewN ?_ _ | with_reducible refine Below.setCell ?_ ?_ _ | with_reducible refine Below.alloc ?_ ?_ _ | omega | (simp; done) | (simp; omega))))).mono ?_
                        rintro e w21 ⟨⟨n', d', c9, rfl, hr⟩, hb21⟩
                        rw [HAA.out] at hr
                        obtain ⟨rfl, rfl, rfl⟩ := hr
                        replace x0 : w21.cell? ⟨w.heap.size, 0, none⟩ = some (.slice (some ⟨gr, off, none⟩) s.length c) := cellOf hb21 (by first | exact x0 | exact cell_drew x0 | exact cell_alloc (cell_drew x0) | exact cell_alloc x0)
                        replace k0 : w21.cell? ⟨gr, off + xk * 4, none⟩ = some (.int .i64 n1) := cellOf hb21 (by first | exact k0 | exact cell_drew k0 | exact cell_alloc (cell_drew k0) | exact cell_alloc k0)
                        replace k1 : w21.cell? ⟨gr, off + xk * 4 + 1, none⟩ = some (.int .i64 d1) := cellOf hb21 (by first | exact k1 | exact cell_drew k1 | exact cell_alloc (cell_drew k1) | exact cell_alloc k1)
                        have hw21 : Below w.heap.size w w21 := stepH (by (repeat' (first | with_reducible exact Below.refl _ _ | with_reducible assumption | with_reducible refine Below.drew ?_ | with_reducible refine below_drewN ?_ _ | with_reducible refine Below.setCell ?_ ?_ _ | with_reducible refine Below.alloc ?_ ?_ _ | omega | (simp; done) | (simp; omega)))) hb21
                        have ho21 : OnlyL [ib] wq w21 := OnlyL.step (by (repeat' (first | with_reducible exact OnlyL.refl _ _ | with_reducible assumption | with_reducible refine OnlyL.drew ?_ | with_reducible refine OnlyL.drewN ?_ _ | with_reducible refine OnlyL.setCell ?_ ?_ _ | with_reducible refine OnlyL.alloc ?_ _ | omega | (simp; done) | (simp; omega)))) hb21
                        have zo21 := ho21.size
                        replace R9 := keepH hb21 (by first | with_reducible exact drew_old R9.out | with_reducible exact blk_old (drew_old R9.out) | with_reducible exact drew_old (blk_old R9.out) | with_reducible exact blk_old R9.out)
                        replace RB9 := keepH hb21 (by first | with_reducible exact drew_old RB9.out | with_reducible exact blk_old (drew_old RB9.out) | with_reducible exact drew_old (blk_old RB9.out) | with_reducible exact blk_old RB9.out)
                        replace IB9 := keepH hb21 (by first | with_reducible exact drew_old IB9.out | with_reducible exact blk_old (drew_old IB9.out) | with_reducible exact drew_old (blk_old IB9.out) | with_reducible exact blk_old IB9.out)
                        replace St9 := keepH hb21 (by first | with_reducible exact drew_old St9.out | with_reducible exact blk_old (drew_old St9.out) | with_reducible exact drew_old (blk_old St9.out) | with_reducible exact blk_old St9.out)
                        replace P9 := keepH hb21 (by first | with_reducible exact drew_old P9.out | with_reducible exact blk_old (drew_old P9.out) | with_reducible exact drew_old (blk_old P9.out) | with_reducible exact blk_old P9.out)
                        replace S9 := keepH hb21 (by first | with_reducible exact drew_old S9.out | with_reducible exact blk_old (drew_old S9.out) | with_reducible exact drew_old (blk_old S9.out) | with_reducible exact blk_old S9.out)
                        replace N9 := keepH hb21 (by first | with_reducible exact drew_old N9.out | with_reducible exact blk_old (drew_old N9.out) | with_reducible exact drew_old (blk_old N9.out) | with_reducible exact blk_old N9.out)
                        have lR9 := lt_of_H R9
                        have lRB9 := lt_of_H RB9
                        have lIB9 := lt_of_H IB9
                        have lSt9 := lt_of_H St9
                        have lP9 := lt_of_H P9
                        have lS9 := lt_of_H S9
                        have lN9 := lt_of_H N9
                        have lg := cell_lt k0
                        go_wp2_with fail
                        refine hK.out _ _ ?_ (fun hH1 => ?_)
                        · (try dsimp only); exact ⟨x0, k0, k1⟩
                        clear hK K
                        clear hH0
                        try simp only [Act.put, List.setIfInBounds_toArray, List.set_cons_zero, List.set_cons_succ]
                        refine wpAnyH_take (i := 7) (oi := { dst := some 68, op := Go.Op.move (Go.Operand.tmp 75), type := 30, pos := "law.go:270", after := #[{ on := 6, ground := Go.Ground.data }], guard := none }) (v := ?_) rfl (by kernel_rfl) (by kernel_rfl) (by kernel_rfl) (fun _ _ _ h => h) (Or.inl ⟨by rfl, ?_⟩) (by assumption) ?_
                        rotate_left
                        · intro wq hSw; (try dsimp only at hSw); go_simp; (try with_reducible rfl)
                        try simp only [Act.put, List.setIfInBounds_toArray, List.set_cons_zero, List.set_cons_succ]
                        refine wpAnyH_take (i := 8) (oi := { dst := some 76, op := Go.Op.extract (Go.Operand.tmp 68) 0, type := 29, pos := "law.go:270", after := #[{ on := 7, ground := Go.Ground.data }], guard := none }) (v := ?_) rfl (by kernel_rfl) (by kernel_rfl) (by kernel_rfl) (fun _ _ _ h => h) (Or.inl ⟨by rfl, ?_⟩) (by assumption) ?_
                        rotate_left
                        · intro wq hSw; (try dsimp only at hSw); go_simp; (try with_reducible rfl)
                        try simp only [Act.put, List.setIfInBounds_toArray, List.set_cons_zero, List.set_cons_succ]
                        refine wpAnyH_take (i := 9) (oi := { dst := some 77, op := Go.Op.extract (Go.Operand.tmp 68) 1, type := 3, pos := "law.go:270", after := #[{ on := 7, ground := Go.Ground.data }, { on := 11, ground := Go.Ground.gcOnly Go.Departure.lateStores }], guard := none }) (v := ?_) rfl (by kernel_rfl) (by kernel_rfl) (by kernel_rfl) (fun _ _ _ h => h) (Or.inl ⟨by rfl, ?_⟩) (by assumption) ?_
                        rotate_left
                        · intro wq hSw; (try dsimp only at hSw); go_simp; (try with_reducible rfl)
                        try simp only [Act.put, List.setIfInBounds_toArray, List.set_cons_zero, List.set_cons_succ]
                        refine wpAnyH_ready (rs := [10]) (by kernel_rfl) (by simp) ?_
                        refine AllReadyH.cons (o := { dst := some 14, op := Go.Op.alloc 29, type := 0, pos := "law.go:270", after := #[], guard := none }) rfl (fun K hK => ?_) AllReadyH.nil
                        go_simp
                        refine hK.out _ _ ?_ (fun hH2 => ?_)
                        · (try dsimp only); exact ⟨(by first | exact cell_alloc x0 | exact cell_alloc (cell_drew x0)), (by first | exact cell_alloc k0 | exact cell_alloc (cell_drew k0)), (by first | exact cell_alloc k1 | exact cell_alloc (cell_drew k1))⟩
                        clear hK K
                        clear hH1
                        try simp only [Act.put, List.setIfInBounds_toArray, List.set_cons_zero, List.set_cons_succ]
                        refine wpAnyH_ready (rs := [11]) (by kernel_rfl) (by simp) ?_
                        refine AllReadyH.cons (o := { dst := none, op := Go.Op.store 29 (Go.Operand.tmp 14) (Go.Operand.tmp 76), type := 0, pos := "law.go:270", after := #[{ on := 10, ground := Go.Ground.data }, { on := 8, ground := Go.Ground.data }, { on := 6, ground := Go.Ground.chain }, { on := 0, ground := Go.Ground.phase }, { on := 1, ground := Go.Ground.phase }, { on := 2, ground := Go.Ground.phase }, { on := 3, ground := Go.Ground.phase }, { on := 4, ground := Go.Ground.phase }, { on := 5, ground := Go.Ground.phase }, { on := 6, ground := Go.Ground.phase }, { on := 7, ground := Go.Ground.phase }, { on := 8, ground := Go.Ground.phase }, { on := 9, ground := Go.Ground.textOnly Go.Departure.lateStores }, { on := 10, ground := Go.Ground.phase }], guard := none }) rfl (fun K hK => ?_) AllReadyH.nil
                        go_simp
                        refine hK.out _ _ ?_ (fun hH3 => ?_)
                        · (try dsimp only); exact ⟨(by repeat (first | exact x0 | refine cell_set ?_ (by first | assumption | (dsimp only; assumption) | (dsimp only; omega)) | refine cell_alloc ?_ | refine cell_drew ?_)), (by repeat (first | exact k0 | refine cell_set ?_ (by first | assumption | (dsimp only; assumption) | (dsimp only; omega)) | refine cell_alloc ?_ | refine cell_drew ?_)), (by repeat (first | exact k1 | refine cell_set ?_ (by first | assumption | (dsimp only; assumption) | (dsimp only; omega)) | refine cell_alloc ?_ | refine cell_drew ?_))⟩
                        clear hK K
                        clear hH2
                        try simp only [Act.put, List.setIfInBounds_toArray, List.set_cons_zero, List.set_cons_succ]
                        refine wpAnyH_take (i := 12) (oi := { dst := some 15, op := Go.Op.assign (Go.Operand.tmp 77), type := 3, pos := "law.go:270", after := #[{ on := 9, ground := Go.Ground.data }, { on := 11, ground := Go.Ground.chain }, { on := 0, ground := Go.Ground.phase }, { on := 1, ground := Go.Ground.phase }, { on := 2, ground := Go.Ground.phase }, { on := 3, ground := Go.Ground.phase }, { on := 4, ground := Go.Ground.phase }, { on := 5, ground := Go.Ground.phase }, { on := 6, ground := Go.Ground.phase }, { on := 7, ground := Go.Ground.phase }, { on := 8, ground := Go.Ground.phase }, { on := 9, ground := Go.Ground.phase }, { on := 10, ground := Go.Ground.phase }, { on := 11, ground := Go.Ground.phase }], guard := none }) (v := ?_) rfl (by kernel_rfl) (by kernel_rfl) (by kernel_rfl) (fun _ _ _ h => h) (Or.inl ⟨by rfl, ?_⟩) (by assumption) ?_
                        rotate_left
                        · intro wq hSw; (try dsimp only at hSw); go_simp; (try with_reducible rfl)
                        try simp only [Act.put, List.setIfInBounds_toArray, List.set_cons_zero, List.set_cons_succ]
                        refine wpAnyH_done (by kernel_rfl) ?_ _
                        refine noOut_normal ?_
                        gi_wp2_with fail
                        gi_meet
                        exact ⟨_, rfl, (by (repeat' (first | with_reducible exact Below.refl _ _ | with_reducible assumption | with_reducible refine Below.drew ?_ | with_reducible refine below_drewN ?_ _ | with_reducible refine Below.setCell ?_ ?_ _ | with_reducible refine Below.alloc ?_ ?_ _ | omega | (simp; done) | (simp; omega)))), (by (repeat' (first | with_reducible exact OnlyL.refl _ _ | with_reducible assumption | with_reducible refine OnlyL.drew ?_ | with_reducible refine OnlyL.drewN ?_ _ | with_reducible refine OnlyL.setCell ?_ ?_ _ | with_reducible refine OnlyL.alloc ?_ _ | omega | (simp; done) | (simp; omega)))), (by first | with_reducible exact setH2 NBk.out | exact blk_new rfl), Lib.hid (by repeat' (first | with_reducible exact R9.out | with_reducible refine setOther ?_ (by dsimp only; omega) | with_reducible refine blk_old ?_ | with_reducible refine drew_old ?_)), Lib.hid (by repeat' (first | with_reducible exact RB9.out | with_reducible refine setOther ?_ (by dsimp only; omega) | with_reducible refine blk_old ?_ | with_reducible refine drew_old ?_)), Lib.hid (by repeat' (first | with_reducible exact IB9.out | with_reducible refine setOther ?_ (by dsimp only; omega) | with_reducible refine blk_old ?_ | with_reducible refine drew_old ?_)), Lib.hid (by repeat' (first | with_reducible exact St9.out | with_reducible refine setOther ?_ (by dsimp only; omega) | with_reducible refine blk_old ?_ | with_reducible refine drew_old ?_)), Lib.hid (by repeat' (first | with_reducible exact P9.out | with_reducible refine setOther ?_ (by dsimp only; omega) | with_reducible refine blk_old ?_ | with_reducible refine drew_old ?_)), Lib.hid (by repeat' (first | with_reducible exact S9.out | with_reducible refine setOther ?_ (by dsimp only; omega) | with_reducible refine blk_old ?_ | with_reducible refine drew_old ?_)), Lib.hid (by repeat' (first | with_reducible exact N9.out | with_reducible refine setOther ?_ (by dsimp only; omega) | with_reducible refine blk_old ?_ | with_reducible refine drew_old ?_))⟩
                      refine AllReadyH.cons (o := { dst := some 14, op := Go.Op.alloc 29, type := 0, pos := "law.go:270", after := #[], guard := none }) rfl (fun K hK => ?_) AllReadyH.nil
                      go_simp
                      refine hK.out _ _ ?_ (fun hH1 => ?_)
                      · (try dsimp only); exact ⟨(by first | exact cell_alloc x0 | exact cell_alloc (cell_drew x0)), (by first | exact cell_alloc k0 | exact cell_alloc (cell_drew k0)), (by first | exact cell_alloc k1 | exact cell_alloc (cell_drew k1))⟩
                      clear hK K
                      clear hH0
                      try simp only [Act.put, List.setIfInBounds_toArray, List.set_cons_zero, List.set_cons_succ]
                      refine wpAnyH_ready (rs := [6]) (by kernel_rfl) (by simp) ?_
                      refine AllReadyH.cons (o := { dst := some 75, op := Go.Op.call { callee := Go.Callee.value (Go.Operand.func 10), args := #[Go.Operand.tmp 69, Go.Operand.tmp 74], argTypes := #[22, 29] }, type := 30, pos := "law.go:270", after := #[{ on := 0, ground := Go.Ground.data }, { on := 5, ground := Go.Ground.data }], guard := none }) rfl (fun K hK => ?_) AllReadyH.nil
                      go_simp
                      refine (HAT9.out _ (by (repeat' (first | with_reducible exact Below.refl _ _ | with_reducible assumption | with_reducible refine Below.drew ?_ | with_reducible refine below_drewN ?_ _ | with_reducible refine Below.setCell ?_ ?_ _ | with_reducible refine Below.alloc ?_ ?_ _ | omega | (simp; done) | (simp; omega))))).mono ?_
                      rintro e w21 ⟨⟨n', d', c9, rfl, hr⟩, hb21⟩
                      rw [HAA.out] at hr
                      obtain ⟨rfl, rfl, rfl⟩ := hr
                      replace x0 : w21.cell? ⟨w.heap.size, 0, none⟩ = some (.slice (some ⟨gr, off, none⟩) s.length c) := cellOf hb21 (by first | exact x0 | exact cell_drew x0 | exact cell_alloc (cell_drew x0) | exact cell_alloc x0)
                      replace k0 : w21.cell? ⟨gr, off + xk * 4, none⟩ = some (.int .i64 n1) := cellOf hb21 (by first | exact k0 | exact cell_drew k0 | exact cell_alloc (cell_drew k0) | exact cell_alloc k0)
                      replace k1 : w21.cell? ⟨gr, off + xk * 4 + 1, none⟩ = some (.int .i64 d1) := cellOf hb21 (by first | exact k1 | exact cell_drew k1 | exact cell_alloc (cell_drew k1) | exact cell_alloc k1)
                      have hw21 : Below w.heap.size w w21 := stepH (by (repeat' (first | with_reducible exact Below.refl _ _ | with_reducible assumption | with_reducible refine Below.drew ?_ | with_reducible refine below_drewN ?_ _ | with_reducible refine Below.setCell ?_ ?_ _ | with_reducible refine Below.alloc ?_ ?_ _ | omega | (simp; done) | (simp; omega)))) hb21
                      have ho21 : OnlyL [ib] wq w21 := OnlyL.step (by (repeat' (first | with_reducible exact OnlyL.refl _ _ | with_reducible assumption | with_reducible refine OnlyL.drew ?_ | with_reducible refine OnlyL.drewN ?_ _ | with_reducible refine OnlyL.setCell ?_ ?_ _ | with_reducible refine OnlyL.alloc ?_ _ | omega | (simp; done) | (simp; omega)))) hb21
                      have zo21 := ho21.size
                      replace R9 := keepH hb21 (by first | with_reducible exact drew_old R9.out | with_reducible exact blk_old (drew_old R9.out) | with_reducible exact drew_old (blk_old R9.out) | with_reducible exact blk_old R9.out)
                      replace RB9 := keepH hb21 (by first | with_reducible exact drew_old RB9.out | with_reducible exact blk_old (drew_old RB9.out) | with_reducible exact drew_old (blk_old RB9.out) | with_reducible exact blk_old RB9.out)
                      replace IB9 := keepH hb21 (by first | with_reducible exact drew_old IB9.out | with_reducible exact blk_old (drew_old IB9.out) | with_reducible exact drew_old (blk_old IB9.out) | with_reducible exact blk_old IB9.out)
                      replace St9 := keepH hb21 (by first | with_reducible exact drew_old St9.out | with_reducible exact blk_old (drew_old St9.out) | with_reducible exact drew_old (blk_old St9.out) | with_reducible exact blk_old St9.out)
                      replace P9 := keepH hb21 (by first | with_reducible exact drew_old P9.out | with_reducible exact blk_old (drew_old P9.out) | with_reducible exact drew_old (blk_old P9.out) | with_reducible exact blk_old P9.out)
                      replace S9 := keepH hb21 (by first | with_reducible exact drew_old S9.out | with_reducible exact blk_old (drew_old S9.out) | with_reducible exact drew_old (blk_old S9.out) | with_reducible exact blk_old S9.out)
                      replace N9 := keepH hb21 (by first | with_reducible exact drew_old N9.out | with_reducible exact blk_old (drew_old N9.out) | with_reducible exact drew_old (blk_old N9.out) | with_reducible exact blk_old N9.out)
                      have NBk := keepH hb21 (by with_reducible first | exact blk_new rfl | exact drew_old (blk_new rfl))
                      have cNB := cellH NBk
                      have fNB := frozH NBk
                      have lNB := lt_of_H NBk
                      have lR9 := lt_of_H R9
                      have lRB9 := lt_of_H RB9
                      have lIB9 := lt_of_H IB9
                      have lSt9 := lt_of_H St9
                      have lP9 := lt_of_H P9
                      have lS9 := lt_of_H S9
                      have lN9 := lt_of_H N9
                      have lg := cell_lt k0
                      go_wp2_with fail
                      refine hK.out _ _ ?_ (fun hH2 => ?_)
                      · (try dsimp only); exact ⟨x0, k0, k1⟩
                      clear hK K
                      clear hH1
                      try simp only [Act.put, List.setIfInBounds_toArray, List.set_cons_zero, List.set_cons_succ]
                      refine wpAnyH_take (i := 7) (oi := { dst := some 68, op := Go.Op.move (Go.Operand.tmp 75), type := 30, pos := "law.go:270", after := #[{ on := 6, ground := Go.Ground.data }], guard := none }) (v := ?_) rfl (by kernel_rfl) (by kernel_rfl) (by kernel_rfl) (fun _ _ _ h => h) (Or.inl ⟨by rfl, ?_⟩) (by assumption) ?_
                      rotate_left
                      · intro wq hSw; (try dsimp only at hSw); go_simp; (try with_reducible rfl)
                      try simp only [Act.put, List.setIfInBounds_toArray, List.set_cons_zero, List.set_cons_succ]
                      refine wpAnyH_take (i := 8) (oi := { dst := some 76, op := Go.Op.extract (Go.Operand.tmp 68) 0, type := 29, pos := "law.go:270", after := #[{ on := 7, ground := Go.Ground.data }], guard := none }) (v := ?_) rfl (by kernel_rfl) (by kernel_rfl) (by kernel_rfl) (fun _ _ _ h => h) (Or.inl ⟨by rfl, ?_⟩) (by assumption) ?_
                      rotate_left
                      · intro wq hSw; (try dsimp only at hSw); go_simp; (try with_reducible rfl)
                      try simp only [Act.put, List.setIfInBounds_toArray, List.set_cons_zero, List.set_cons_succ]
                      refine wpAnyH_take (i := 9) (oi := { dst := some 77, op := Go.Op.extract (Go.Operand.tmp 68) 1, type := 3, pos := "law.go:270", after := #[{ on := 7, ground := Go.Ground.data }, { on := 11, ground := Go.Ground.gcOnly Go.Departure.lateStores }], guard := none }) (v := ?_) rfl (by kernel_rfl) (by kernel_rfl) (by kernel_rfl) (fun _ _ _ h => h) (Or.inl ⟨by rfl, ?_⟩) (by assumption) ?_
                      rotate_left
                      · intro wq hSw; (try dsimp only at hSw); go_simp; (try with_reducible rfl)
                      try simp only [Act.put, List.setIfInBounds_toArray, List.set_cons_zero, List.set_cons_succ]
                      refine wpAnyH_ready (rs := [11]) (by kernel_rfl) (by simp) ?_
                      refine AllReadyH.cons (o := { dst := none, op := Go.Op.store 29 (Go.Operand.tmp 14) (Go.Operand.tmp 76), type := 0, pos := "law.go:270", after := #[{ on := 10, ground := Go.Ground.data }, { on := 8, ground := Go.Ground.data }, { on := 6, ground := Go.Ground.chain }, { on := 0, ground := Go.Ground.phase }, { on := 1, ground := Go.Ground.phase }, { on := 2, ground := Go.Ground.phase }, { on := 3, ground := Go.Ground.phase }, { on := 4, ground := Go.Ground.phase }, { on := 5, ground := Go.Ground.phase }, { on := 6, ground := Go.Ground.phase }, { on := 7, ground := Go.Ground.phase }, { on := 8, ground := Go.Ground.phase }, { on := 9, ground := Go.Ground.textOnly Go.Departure.lateStores }, { on := 10, ground := Go.Ground.phase }], guard := none }) rfl (fun K hK => ?_) AllReadyH.nil
                      go_simp
                      refine hK.out _ _ ?_ (fun hH3 => ?_)
                      · (try dsimp only); exact ⟨(by repeat (first | exact x0 | refine cell_set ?_ (by first | assumption | (dsimp only; assumption) | (dsimp only; omega)) | refine cell_alloc ?_ | refine cell_drew ?_)), (by repeat (first | exact k0 | refine cell_set ?_ (by first | assumption | (dsimp only; assumption) | (dsimp only; omega)) | refine cell_alloc ?_ | refine cell_drew ?_)), (by repeat (first | exact k1 | refine cell_set ?_ (by first | assumption | (dsimp only; assumption) | (dsimp only; omega)) | refine cell_alloc ?_ | refine cell_drew ?_))⟩
                      clear hK K
                      clear hH2
                      try simp only [Act.put, List.setIfInBounds_toArray, List.set_cons_zero, List.set_cons_succ]
                      refine wpAnyH_take (i := 12) (oi := { dst := some 15, op := Go.Op.assign (Go.Operand.tmp 77), type := 3, pos := "law.go:270", after := #[{ on := 9, ground := Go.Ground.data }, { on := 11, ground := Go.Ground.chain }, { on := 0, ground := Go.Ground.phase }, { on := 1, ground := Go.Ground.phase }, { on := 2, ground := Go.Ground.phase }, { on := 3, ground := Go.Ground.phase }, { on := 4, ground := Go.Ground.phase }, { on := 5, ground := Go.Ground.phase }, { on := 6, ground := Go.Ground.phase }, { on := 7, ground := Go.Ground.phase }, { on := 8, ground := Go.Ground.phase }, { on := 9, ground := Go.Ground.phase }, { on := 10, ground := Go.Ground.phase }, { on := 11, ground := Go.Ground.phase }], guard := none }) (v := ?_) rfl (by kernel_rfl) (by kernel_rfl) (by kernel_rfl) (fun _ _ _ h => h) (Or.inl ⟨by rfl, ?_⟩) (by assumption) ?_
                      rotate_left
                      · intro wq hSw; (try dsimp only at hSw); go_simp; (try with_reducible rfl)
                      try simp only [Act.put, List.setIfInBounds_toArray, List.set_cons_zero, List.set_cons_succ]
                      refine wpAnyH_done (by kernel_rfl) ?_ _
                      refine noOut_normal ?_
                      gi_wp2_with fail
                      gi_meet
                      exact ⟨_, rfl, (by (repeat' (first | with_reducible exact Below.refl _ _ | with_reducible assumption | with_reducible refine Below.drew ?_ | with_reducible refine below_drewN ?_ _ | with_reducible refine Below.setCell ?_ ?_ _ | with_reducible refine Below.alloc ?_ ?_ _ | omega | (simp; done) | (simp; omega)))), (by (repeat' (first | with_reducible exact OnlyL.refl _ _ | with_reducible assumption | with_reducible refine OnlyL.drew ?_ | with_reducible refine OnlyL.drewN ?_ _ | with_reducible refine OnlyL.setCell ?_ ?_ _ | with_reducible refine OnlyL.alloc ?_ _ | omega | (simp; done) | (simp; omega)))), (by first | with_reducible exact setH2 NBk.out | exact blk_new rfl), Lib.hid (by repeat' (first | with_reducible exact R9.out | with_reducible refine setOther ?_ (by dsimp only; omega) | with_reducible refine blk_old ?_ | with_reducible refine drew_old ?_)), Lib.hid (by repeat' (first | with_reducible exact RB9.out | with_reducible refine setOther ?_ (by dsimp only; omega) | with_reducible refine blk_old ?_ | with_reducible refine drew_old ?_)), Lib.hid (by repeat' (first | with_reducible exact IB9.out | with_reducible refine setOther ?_ (by dsimp only; omega) | with_reducible refine blk_old ?_ | with_reducible refine drew_old ?_)), Lib.hid (by repeat' (first | with_reducible exact St9.out | with_reducible refine setOther ?_ (by dsimp only; omega) | with_reducible refine blk_old ?_ | with_reducible refine drew_old ?_)), Lib.hid (by repeat' (first | with_reducible exact P9.out | with_reducible refine setOther ?_ (by dsimp only; omega) | with_reducible refine blk_old ?_ | with_reducible refine drew_old ?_)), Lib.hid (by repeat' (first | with_reducible exact S9.out | with_reducible refine setOther ?_ (by dsimp only; omega) | with_reducible refine blk_old ?_ | with_reducible refine drew_old ?_)), Lib.hid (by repeat' (first | with_reducible exact N9.out | with_reducible refine setOther ?_ (by dsimp only; omega) | with_reducible refine blk_old ?_ | with_reducible refine drew_old ?_))⟩
                  case rest =>
                    as_aux_lemma =>
                      clear hoZ hw9 hx9 R9 RB9 IB9 St9 P9 S9 N9 k0 k1 x0 zo9
                      obtain ⟨gy, rfl, hw9, hoZ, Y, R9, RB9, IB9, St9, P9, S9, N9⟩ := hcut
                      obtain ⟨wy, rfl⟩ : ∃ x : World, x = wc := ⟨_, rfl⟩
                      have zo9 := hoZ.size
                      have cY := cellH Y
                      have cP := cellH P9
                      gi_wp2_with fail
                      first | refine round_open ?_ | refine round_open2 ?_ | refine round_open3 ?_ | refine round_open4 ?_
                      by_cases hxq : xq = pq
                      · refine (sameB_is _ _ _ _ true _ (by rw [hxq]; simp)).mono ?_
                        rintro e wt ⟨rfl, hbt⟩
                        replace hoZ : OnlyL [ib] wq wt := OnlyL.step hoZ hbt
                        replace hw9 : Below w.heap.size w wt := stepH hw9 hbt
                        replace R9 := keepH hbt R9.out
                        replace RB9 := keepH hbt RB9.out
                        replace IB9 := keepH hbt IB9.out
                        replace St9 := keepH hbt St9.out
                        replace P9 := keepH hbt P9.out
                        replace S9 := keepH hbt S9.out
                        replace N9 := keepH hbt N9.out
                        clear hbt cY cP Y
                        have zo9 := hoZ.size

                        have HLI : Hid (TiI (topsL s 1) ib w7 (pre ++ [(xk, xq)]) wt) := by
                          refine ⟨?_, HI2.out.trans (OnlyL.below hoZ (by omega) (fun k hk => by simp only [List.mem_singleton] at hk; omega)), ?_⟩
                          · rw [show ((pre ++ [(xk, xq)]).length : Int) = (pre.length : Int) + 1 by simp]
                            exact IB9.out
                          · rw [List.length_append, List.length_singleton, take_snoc HP.out, ← HI3.out, HPK.out, hxq]
                        have HKF := Lib.hid (OnlyL.from hoZ w7.heap.size HCI.out)
                        have HKB : Hid (KeepR w.heap.size w1.heap.size w2.heap.size wq wt) := OnlyL.keepR hoZ (by omega) (by omega) (fun k hk => by simp only [List.mem_singleton] at hk; omega)
                        have cB9 := cellH RB9
                        have cT9 := cellH St9
                        have cI9 := cellH IB9

                        gi_wp2_with fail
                        exact ⟨HKF.out, HKB.out, HLI.out⟩
                      · refine (sameB_is _ _ _ _ false _ (by
                          rw [Bool.and_eq_false_imp]
                          intro h
                          rw [beq_eq_false_iff_ne]
                          exact fun h2 => hxq (Rat.ext (by simpa using h) (by exact_mod_cast h2)))).mono ?_
                        rintro e wt ⟨rfl, hbt⟩
                        replace hoZ : OnlyL [ib] wq wt := OnlyL.step hoZ hbt
                        replace hw9 : Below w.heap.size w wt := stepH hw9 hbt
                        replace R9 := keepH hbt R9.out
                        replace RB9 := keepH hbt RB9.out
                        replace IB9 := keepH hbt IB9.out
                        replace St9 := keepH hbt St9.out
                        replace P9 := keepH hbt P9.out
                        replace S9 := keepH hbt S9.out
                        replace N9 := keepH hbt N9.out
                        clear hbt cY cP Y
                        have zo9 := hoZ.size

                        have cR9 := cellH R9
                        have fR9 := frozH R9
                        gi_wp2_with fail
                        exact ⟨OnlyL.from (L := [ib, w.heap.size + 1 + 1]) (OnlyL.setCell (OnlyL.wider hoZ (by simp)) (.inl (by simp)) _) _ HCL.out, .inl (fun h => hxq (congrArg Prod.snd (prefix_one h HP.out)))⟩
                · have hk8 : ((xk : Int) != (pre.length : Int) + 1) = true := by rw [bne_iff_ne]; omega
                  have cR9 := cellH R9
                  have fR9 := frozH R9
                  gi_wp2_with fail
                  exact ⟨OnlyL.from (L := [ib, w.heap.size + 1 + 1]) (OnlyL.setCell (OnlyL.wider hoZ (by simp)) (.inl (by simp)) _) _ HCL.out, .inl (fun h => by have h9 := congrArg Prod.fst (prefix_one h HP.out); dsimp only at h9; omega)⟩
              · have hmx : decide (max (n0 : Int) 1 ≤ (pre.length : Int) + 1) = true := decide_eq_true (by have := HN9.out; omega)
                have cR9 := cellH R9
                have fR9 := frozH R9
                gi_wp2_with fail
                exact ⟨OnlyL.from (L := [ib, w.heap.size + 1 + 1]) (OnlyL.setCell (OnlyL.wider hoZ (by simp)) (.inl (by simp)) _) _ HCL.out, .inl (fun h => by have h9 := prefix_len h; have := HTL.out; omega)⟩
            case done1 =>
              intro D1 xs W hD1 hxs hI hK
              rw [hxs] at hI
              obtain ⟨i1, i2, i3⟩ := hI
              rw [HTL.out] at i1
              have HKD := Lib.hid hK
              subst ha
              have zq := i2.size
              have St8 : Hid (W.heap[w.heap.size + 1]? = some (.cells #[.int .i64 stop] 3 (0, 0))) := (i2.block _ l7St).trans St7.out
              have R8 : Hid (W.heap[w.heap.size + 1 + 1]? = some (.cells #[.bool false] 4 (0, 0))) := (i2.block _ l7R).trans R7.out
              have S8 : Hid (W.heap[w.heap.size]? = some (.cells #[.slice A s.length c] 22 (0, 0))) := (i2.block _ l7S).trans S7.out
              have N8 : Hid (W.heap[w2.heap.size]? = some (.cells #[.int .i64 n0] 3 (0, 0))) := (i2.block _ l7N).trans N7.out
              have BX8 : Hid (W.heap[Bx]? = some (.cells #[.slice A2 s.length c2] 22 (0, 0))) := (i2.block _ l7BX).trans BX7.out
              have RB8 : Hid (W.heap[rb9]? = some (.cells #[.int .i64 1] 3 (0, 0))) := (i2.block _ l7RB).trans RB7.out
              have hw8 : Below w.heap.size w W := hw7.trans (i2.mono zw6)
              have hx8 : Below w2.heap.size w2 W := hx7.trans (i2.mono zx6)
              have KD08 := Lib.hid ((i2.block _ (by have := lD0; omega)).trans KD07.out)
              have IB8 : Hid (W.heap[ib]? = some (.cells #[.int .i64 TL] 3 (0, 0))) := i1
              have cSt := cellH St8
              have cN := cellH N8
              have cRB := cellH RB8
              have cIB := cellH IB8
              have kwn : IntKind.i64.wrap ((n0 : Int) - 1) = (n0 : Int) - 1 := by rw [IntKind.wrap_i64]; have := HN9.out; omega
              have e6 : ((TL : Int) != max ((n0 : Int) - 1) 0) = false := by rw [bne_eq_false_iff_eq]; have := HN9.out; omega
              clear i1 i2 i3 hK hxs
              gi_wp2_with fail
              clear kwn e6
              have RB9 : Hid ((W.alloc (.cells #[.int .i64 2] 3)).heap[W.heap.size]? = some (.cells #[.int .i64 2] 3 (0, 0))) := blk_new rfl
              have St6 := Lib.hid (blk_old (o := .cells #[.int .i64 2] 3) St8.out)
              have R6 := Lib.hid (blk_old (o := .cells #[.int .i64 2] 3) R8.out)
              have S6 := Lib.hid (blk_old (o := .cells #[.int .i64 2] 3) S8.out)
              have N6 := Lib.hid (blk_old (o := .cells #[.int .i64 2] 3) N8.out)
              have BX6 := Lib.hid (blk_old (o := .cells #[.int .i64 2] 3) BX8.out)
              have KD1 := Lib.hid (blk_old (o := .cells #[.int .i64 2] 3) HKD.out)
              have KD0b := Lib.hid (blk_old (o := .cells #[.int .i64 2] 3) KD08.out)
              have zw8 := hw8.size
              have zx8 := hx8.size
              have hw6 : Below w.heap.size w (W.alloc (.cells #[.int .i64 2] 3)) := by (repeat' (first | with_reducible exact Below.refl _ _ | with_reducible assumption | with_reducible refine Below.drew ?_ | with_reducible refine below_drewN ?_ _ | with_reducible refine Below.setCell ?_ ?_ _ | with_reducible refine Below.alloc ?_ ?_ _ | omega | (simp; done) | (simp; omega)))
              have hx6 : Below w2.heap.size w2 (W.alloc (.cells #[.int .i64 2] 3)) := by (repeat' (first | with_reducible exact Below.refl _ _ | with_reducible assumption | with_reducible refine Below.drew ?_ | with_reducible refine below_drewN ?_ _ | with_reducible refine Below.setCell ?_ ?_ _ | with_reducible refine Below.alloc ?_ ?_ _ | omega | (simp; done) | (simp; omega)))
              obtain ⟨rb9, hrb⟩ : ∃ rb9, W.heap.size = rb9 := ⟨_, rfl⟩
              clear St8 R8 S8 N8 BX8 RB8 IB8 HKD hw8 hx8 cSt cRB cIB cN St7 R7 S7 N7 BX7 RB7 IB7 hw7 hx7 HA7
              generalize (W.alloc (.cells #[.int .i64 2] 3)) = w69 at *
              rw [hrb] at RB9 ⊢
              rw [hrb] at zw8 zx8 zq
              clear hrb
              have cRB := cellH RB9
              have cR := cellH R6
              have fzR := frozH R6
              rw [roundsIn_succ]
              gi_wp2_with fail

              have k1 : (w69.setCell ⟨w.heap.size + 1 + 1, 0, none⟩ (.bool true)).heap[D1]? = some (.deferred (some [])) := (KeepsOthers.setCell _ _ _).same D1 _ KD1.out rfl
              have k0 : ((w69.setCell ⟨w.heap.size + 1 + 1, 0, none⟩ (.bool true)).putObj D1 (.deferred none)).heap[D0]? = some (.deferred (some [])) := (World.putObj_heap_other (by omega)).trans ((KeepsOthers.setCell _ _ _).same D0 _ KD0b.out rfl)
              have HR : Hid ((((w69.setCell ⟨w.heap.size + 1 + 1, 0, none⟩ (.bool true)).putObj D1 (.deferred none)).putObj D0 (.deferred none)).heap[w.heap.size + 1 + 1]? = some (.cells #[.bool true] 4 (0, 0))) := (World.putObj_heap_other (by omega)).trans ((World.putObj_heap_other (by omega)).trans (setBox R6.out _))
              have hB : Below w.heap.size w (((w69.setCell ⟨w.heap.size + 1 + 1, 0, none⟩ (.bool true)).putObj D1 (.deferred none)).putObj D0 (.deferred none)) := Below.trans (Below.trans (hw6.setCell (by dsimp only; omega) _) (belowK_b (w := w) (Nat.le_refl _) _ D1 _ _ (by omega) k1 rfl rfl)) (belowK_b (w := w) (Nat.le_refl _) _ D0 _ _ (by omega) k0 rfl rfl)
              refine ⟨by simp, .inl ⟨_, _, rfl, run_takeDeferred k1, ⟨by simp, .inl ⟨_, _, rfl, run_takeDeferred k0, ?_⟩⟩⟩⟩
              clear k1 k0
              generalize (((w69.setCell ⟨w.heap.size + 1 + 1, 0, none⟩ (.bool true)).putObj D1 (.deferred none)).putObj D0 (.deferred none)) = wz at HR hB ⊢
              have c4 := cellH HR
              exact ⟨_, (by simp [results, Tryd.results3, go_sem, c4]), rfl, hB⟩

            case stop1 =>
              rintro D1 c pre W hD hpre hX hK
              rcases hX with h | ⟨h1, _, _⟩
              · exact absurd hpre h
              · omega
          · have cIB := cellH IB8
            have e6 : ((pre.length : Int) != max ((n0 : Int) - 1) 0) = true := by rw [bne_iff_ne]; have := HN9.out; omega
            have e7 : ((pre.length : Int) == stop) = true := by simp [hst]
            clear hst hpl
            gi_wp2_with fail
            clear kwn e6 e7
            have RB9 : Hid ((W.alloc (.cells #[.int .i64 1] 3)).heap[W.heap.size]? = some (.cells #[.int .i64 1] 3 (0, 0))) := blk_new rfl
            have St6 := Lib.hid (blk_old (o := .cells #[.int .i64 1] 3) St8.out)
            have R6 := Lib.hid (blk_old (o := .cells #[.int .i64 1] 3) R8.out)
            have S6 := Lib.hid (blk_old (o := .cells #[.int .i64 1] 3) S8.out)
            have N6 := Lib.hid (blk_old (o := .cells #[.int .i64 1] 3) N8.out)
            have BX6 := Lib.hid (blk_old (o := .cells #[.int .i64 1] 3) BX8.out)
            have KD0 := Lib.hid (blk_old (o := .cells #[.int .i64 1] 3) HKD.out)

            have zw8 := hw8.size
            have zx8 := hx8.size
            have hw6 : Below w.heap.size w (W.alloc (.cells #[.int .i64 1] 3)) := by (repeat' (first | with_reducible exact Below.refl _ _ | with_reducible assumption | with_reducible refine Below.drew ?_ | with_reducible refine below_drewN ?_ _ | with_reducible refine Below.setCell ?_ ?_ _ | with_reducible refine Below.alloc ?_ ?_ _ | omega | (simp; done) | (simp; omega)))
            have hx6 : Below w2.heap.size w2 (W.alloc (.cells #[.int .i64 1] 3)) := by (repeat' (first | with_reducible exact Below.refl _ _ | with_reducible assumption | with_reducible refine Below.drew ?_ | with_reducible refine below_drewN ?_ _ | with_reducible refine Below.setCell ?_ ?_ _ | with_reducible refine Below.alloc ?_ ?_ _ | omega | (simp; done) | (simp; omega)))
            obtain ⟨rb9, hrb⟩ : ∃ rb, W.heap.size = rb := ⟨_, rfl⟩
            clear St8 R8 S8 N8 BX8 RB8 IB8 HKD hw8 hx8 cSt cRB cIB cN St7 R7 S7 N7 BX7 RB7 IB7 hw7 hx7 HA7
            generalize (W.alloc (.cells #[.int .i64 1] 3)) = w69 at *
            rw [hrb] at RB9 ⊢
            rw [hrb] at zw8 zx8 zq
            clear hrb
            have cRB := cellH RB9

            rw [roundsIn_succ]
            gi_wp2_with fail
            have IB7 : Hid ((w69.alloc (.cells #[.int .i64 0] 3)).heap[w69.heap.size]? = some (.cells #[.int .i64 0] 3 (0, 0))) := blk_new rfl
            have St7 := Lib.hid (blk_old (o := .cells #[.int .i64 0] 3) St6.out)
            have R7 := Lib.hid (blk_old (o := .cells #[.int .i64 0] 3) R6.out)
            have S7 := Lib.hid (blk_old (o := .cells #[.int .i64 0] 3) S6.out)
            have N7 := Lib.hid (blk_old (o := .cells #[.int .i64 0] 3) N6.out)
            have BX7 := Lib.hid (blk_old (o := .cells #[.int .i64 0] 3) BX6.out)
            have RB7 := Lib.hid (blk_old (o := .cells #[.int .i64 0] 3) RB9.out)
            have KD07 := Lib.hid (blk_old (o := .cells #[.int .i64 0] 3) KD0.out)
            have lD0 : D0 < w69.heap.size := (Array.getElem?_eq_some_iff.1 KD0.out).1
            have zw6 := hw6.size
            have zx6 := hx6.size
            have hw7 : Below w.heap.size w (w69.alloc (.cells #[.int .i64 0] 3)) := by (repeat' (first | with_reducible exact Below.refl _ _ | with_reducible assumption | with_reducible refine Below.drew ?_ | with_reducible refine below_drewN ?_ _ | with_reducible refine Below.setCell ?_ ?_ _ | with_reducible refine Below.alloc ?_ ?_ _ | omega | (simp; done) | (simp; omega)))
            have hx7 : Below w2.heap.size w2 (w69.alloc (.cells #[.int .i64 0] 3)) := by (repeat' (first | with_reducible exact Below.refl _ _ | with_reducible assumption | with_reducible refine Below.drew ?_ | with_reducible refine below_drewN ?_ _ | with_reducible refine Below.setCell ?_ ?_ _ | with_reducible refine Below.alloc ?_ ?_ _ | omega | (simp; done) | (simp; omega)))
            have hu7 : w69.heap.size < (w69.alloc (.cells #[.int .i64 0] 3)).heap.size := by simp
            have l7St := lt_of_H St6
            have l7R := lt_of_H R6
            have l7S := lt_of_H S6
            have l7N := lt_of_H N6
            have l7BX := lt_of_H BX6
            have l7RB := lt_of_H RB9
            obtain ⟨ib, hib⟩ : ∃ ib, w69.heap.size = ib := ⟨_, rfl⟩
            clear St6 R6 S6 N6 BX6 RB9 hw6 hx6 cRB
            generalize (w69.alloc (.cells #[.int .i64 0] 3)) = w7 at *
            rw [hib] at IB7 hu7 l7St l7R l7S l7N l7BX l7RB zw6 zx6 lD0 ⊢
            clear hib
            have HA7 : RowAt encR 4 w7 w7.heap.size A2 s := (HROW.out.below hx7 (Nat.le_refl _)).more hx7.size
            generalize ha : Act.mk _ _ = a0
            refine wpIn_rangeFunc_ownH rfl (by decide) (gf := 53) (lb := #[.pointer (some ⟨Bx, 0, none⟩)]) (by rw [← ha]; rfl) trivial (enters_of Tryd.func53 (by kernel_rfl) rfl)
              (tops_stops s A2 c2 E w (by omega) HI.out HE.out (3 - 1) w1.heap.size Bx w2.heap.size ⟨hBx, hlbx⟩ HA2.out w7 hw7 (by omega) BX7 HA7)
              KeepR.trans (fun W l o o' hl h q1 q2 => keepR_b (m := w.heap.size) (lo := w1.heap.size) (hi := w2.heap.size) (w := w7) (by omega) (by omega) W l o o' hl h q1 q2) (Below.refl _ _) (fun x => rfl)
              (TiI (topsL s 1) ib w7) (TiX (topsL s 1) ib w7 (-1)) (TiI_own (Nat.le_of_lt hu7) (Nat.le_refl _)) (fun c => TiX_own c (Nat.le_of_lt hu7) (Nat.le_refl _)) ⟨IB7.out, Below.refl _ _, rfl⟩
              (fun x a' W => ∃ Bp, w7.heap.size ≤ Bp ∧ W.heap[Bp]? = some (.cells #[.int .i64 x.2.num, .int .i64 x.2.den] 29 (0, 0)) ∧ a' = { tmps := (((a0.tmps.setIfInBounds 55 (.int .i64 x.1)).setIfInBounds 56 (.agg #[.int .i64 x.2.num, .int .i64 x.2.den])).setIfInBounds 12 (.int .i64 x.1)).setIfInBounds 13 (.pointer (some ⟨Bp, 0, none⟩)), defers := [] })
              (fun x a' s W W' row hs hg hr => by obtain ⟨Bp, h2, h3, h4⟩ := hs; exact ⟨Bp, h2, ownBlk h3 hg hr, h4⟩) ?assign1 ?body1 ?done1 ?stop1
            case assign1 =>
              intro l9 pre x W K hI hK
              obtain ⟨i1, i2, i3⟩ := hI
              have zz := i2.size
              subst ha
              simp only [encT]
              gi_wp2_with fail
              have h9 := hK _ _ ((KeepsOthers.alloc W (.cells #[.int .i64 x.2.num, .int .i64 x.2.den] 29)).from _) (KeepR.ofBelow ((Below.refl _ _).alloc (Nat.le_refl _) _) (by omega) (by omega)) ⟨blk_old i1, i2.alloc (by omega) _, i3⟩ ⟨_, zz, blk_new rfl, rfl⟩
              simp only [List.setIfInBounds_toArray, List.set_cons_zero, List.set_cons_succ] at h9
              exact h9
            case body1 =>
              rintro l9 pre ⟨xk, xq⟩ a' wq hl9 ⟨rr, hrr⟩ ⟨i1, i2, i3⟩ ⟨Bp, p2, p3, rfl⟩ hlt
              subst ha
              try simp only [List.setIfInBounds_toArray, List.set_cons_zero, List.set_cons_succ]
              have zq := i2.size
              have St8 : Hid (wq.heap[w.heap.size + 1]? = some (.cells #[.int .i64 stop] 3 (0, 0))) := (i2.block _ l7St).trans St7.out
              have R8 : Hid (wq.heap[w.heap.size + 1 + 1]? = some (.cells #[.bool false] 4 (0, 0))) := (i2.block _ l7R).trans R7.out
              have S8 : Hid (wq.heap[w.heap.size]? = some (.cells #[.slice A s.length c] 22 (0, 0))) := (i2.block _ l7S).trans S7.out
              have N8 : Hid (wq.heap[w2.heap.size]? = some (.cells #[.int .i64 n0] 3 (0, 0))) := (i2.block _ l7N).trans N7.out
              have BX8 : Hid (wq.heap[Bx]? = some (.cells #[.slice A2 s.length c2] 22 (0, 0))) := (i2.block _ l7BX).trans BX7.out
              have RB8 : Hid (wq.heap[rb9]? = some (.cells #[.int .i64 1] 3 (0, 0))) := (i2.block _ l7RB).trans RB7.out
              have hw8 : Below w.heap.size w wq := hw7.trans (i2.mono zw6)
              have hx8 : Below w2.heap.size w2 wq := hx7.trans (i2.mono zx6)
              have IB8 : Hid (wq.heap[ib]? = some (.cells #[.int .i64 pre.length] 3 (0, 0))) := i1
              have P8 : Hid (wq.heap[Bp]? = some (.cells #[.int .i64 xq.num, .int .i64 xq.den] 29 (0, 0))) := p3
              have HI2 := Lib.hid i2
              have HI3 := Lib.hid i3
              clear i1 i2 i3 p3
              have HCL : Hid (∀ k ∈ [ib, w.heap.size + 1 + 1], ∃ cs t z, wq.heap[k]? = some (.cells cs t z)) := by
                intro k hk
                simp only [List.mem_cons, List.not_mem_nil, or_false] at hk
                rcases hk with rfl | rfl
                · exact ⟨_, _, _, IB8.out⟩
                · exact ⟨_, _, _, R8.out⟩
              have HCI : Hid (∀ k ∈ [ib], ∃ cs t z, wq.heap[k]? = some (.cells cs t z)) := fun k hk => HCL.out k (by simp only [List.mem_singleton] at hk; subst hk; simp)
              have hBp := lt_of_H P8
              have cI8 := cellH IB8
              have fI8 := frozH IB8
              have kw : IntKind.i64.wrap ((pre.length : Int) + 1) = (pre.length : Int) + 1 := by rw [IntKind.wrap_i64]; omega
              gi_upto_region 22 with fail
              obtain ⟨wz, hwz⟩ : ∃ wz, (wq.setCell ⟨ib, 0, none⟩ (.int .i64 ((pre.length : Int) + 1))) = wz := ⟨_, rfl⟩
              have hoZ : OnlyL [ib] wq wz := by rw [← hwz]; exact OnlyL.setCell (OnlyL.refl _ _) (.inl (by simp)) _
              have IB9 : Hid (wz.heap[ib]? = some (.cells #[.int .i64 ((pre.length : Int) + 1)] 3 (0, 0))) := by rw [← hwz]; exact setBox IB8.out _
              have St9 := Lib.hid ((show wz.heap[w.heap.size + 1]? = wq.heap[w.heap.size + 1]? by rw [← hwz]; exact setOther rfl (by show _ ≠ ib; omega)).trans St8.out)
              have R9 := Lib.hid ((show wz.heap[w.heap.size + 1 + 1]? = wq.heap[w.heap.size + 1 + 1]? by rw [← hwz]; exact setOther rfl (by show _ ≠ ib; omega)).trans R8.out)
              have S9 := Lib.hid ((show wz.heap[w.heap.size]? = wq.heap[w.heap.size]? by rw [← hwz]; exact setOther rfl (by show _ ≠ ib; omega)).trans S8.out)
              have N9 := Lib.hid ((show wz.heap[w2.heap.size]? = wq.heap[w2.heap.size]? by rw [← hwz]; exact setOther rfl (by show _ ≠ ib; omega)).trans N8.out)
              have RB9 := Lib.hid ((show wz.heap[rb9]? = wq.heap[rb9]? by rw [← hwz]; exact setOther rfl (by show _ ≠ ib; omega)).trans RB8.out)
              have P9 := Lib.hid ((show wz.heap[Bp]? = wq.heap[Bp]? by rw [← hwz]; exact setOther rfl (by show _ ≠ ib; omega)).trans P8.out)
              have hw9 : Below w.heap.size w wz := hw8.trans (hoZ.below (by omega) (fun k hk => by simp only [List.mem_singleton] at hk; omega))
              have hx9 : Below w2.heap.size w2 wz := hx8.trans (hoZ.below (by omega) (fun k hk => by simp only [List.mem_singleton] at hk; omega))
              have zo9 := hoZ.size
              rw [hwz]
              clear hwz cI8 fI8 St8 R8 S8 N8 BX8 RB8 IB8 P8 hw8 hx8
              have cI9 := cellH IB9
              have cN9 := cellH N9
              by_cases hT : pre.length < TL
              · obtain ⟨⟨pk, pq⟩, hp⟩ : ∃ p, (topsL s 1)[pre.length]? = some p := ⟨_, List.getElem?_eq_getElem (by have := HTL.out; omega)⟩
                obtain ⟨hpk, ⟨n1, d1, n2, d2⟩, hb, hat⟩ := topsL_at hp
                dsimp only at hpk hat
                have HP := Lib.hid hp
                have hmx : decide (max (n0 : Int) 1 ≤ (pre.length : Int) + 1) = false := decide_eq_false (by have := HN9.out; omega)
                clear hp
                by_cases hk9 : xk = pre.length + 1
                · have hk8 : ((xk : Int) != (pre.length : Int) + 1) = false := by rw [hk9]; simp
                  have hkk : (xk : Int) = (pre.length : Int) + 1 := by omega
                  rw [show 1 + pre.length = xk by omega] at hb hpk
                  gi_upto_region 24 with fail
                  have HPK := Lib.hid hpk
                  clear cI9 cN9 hmx hk8 hk9 hkk hpk
                  obtain ⟨gr, off, hAe, hgB, k0, k1, _, _⟩ := cells4 (HL.out.below hw9 (Nat.le_refl _)) hb
                  obtain ⟨⟨a1, a2⟩, ⟨a3, a4⟩, _⟩ := HI.out _ (List.mem_of_getElem? hb)
                  have hls := (List.getElem?_eq_some_iff.1 hb).1
                  dsimp only at a1 a2 a3 a4
                  subst hAe
                  replace k0 : wz.cell? ⟨gr, off + xk * 4, none⟩ = some (.int .i64 n1) := k0
                  replace k1 : wz.cell? ⟨gr, off + xk * 4 + 1, none⟩ = some (.int .i64 d1) := k1
                  have x0 : wz.cell? ⟨w.heap.size, 0, none⟩ = some (.slice (some ⟨gr, off, none⟩) s.length c) := cellH S9 0
                  have HAT9 := Lib.hid (fun w' (h : Below w.heap.size w w') => refAt15_any s (some ⟨gr, off, none⟩) c n1 d1 w' ((HL.out.below h (Nat.le_refl _)).more h.size) hm HI.out ⟨a1, a2⟩ ⟨a3, a4⟩)
                  have HAA := Lib.hid hat
                  clear hb hat
                  have i0 : (xk : Int) ≤ (s.length : Int) := by omega
                  have i1 : (xk : Int) < (s.length : Int) := by omega
                  have i2 : (0 : Int) ≤ (xk : Int) := by omega
                  have i3 : ((xk : Int)).toNat = xk := by omega
                  gi_cut [14] from 68 (fun s14 wx => ∃ g : Nat, s14 = .pointer (some ⟨g, 0, none⟩) ∧ Below w.heap.size w wx ∧ OnlyL [ib] wq wx ∧ Hid (wx.heap[g]? = some (.cells #[.int .i64 pq.num, .int .i64 pq.den] 29 (0, 0))) ∧ Hid (wx.heap[w.heap.size + 1 + 1]? = some (.cells #[.bool false] 4 (0, 0))) ∧ Hid (wx.heap[rb9]? = some (.cells #[.int .i64 1] 3 (0, 0))) ∧ Hid (wx.heap[ib]? = some (.cells #[.int .i64 ((pre.length : Int) + 1)] 3 (0, 0))) ∧ Hid (wx.heap[w.heap.size + 1]? = some (.cells #[.int .i64 stop] 3 (0, 0))) ∧ Hid (wx.heap[Bp]? = some (.cells #[.int .i64 xq.num, .int .i64 xq.den] 29 (0, 0))) ∧ Hid (wx.heap[w.heap.size]? = some (.cells #[.slice (some ⟨gr, off, none⟩) s.length c] 22 (0, 0))) ∧ Hid (wx.heap[w2.heap.size]? = some (.cells #[.int .i64 n0] 3 (0, 0))))
                  case first =>
                    as_aux_lemma =>
                      refine round_held_drew (S := fun w' => w'.cell? ⟨w.heap.size, 0, none⟩ = some (.slice (some ⟨gr, off, none⟩) s.length c) ∧ w'.cell? ⟨gr, off + xk * 4, none⟩ = some (.int .i64 n1) ∧ w'.cell? ⟨gr, off + xk * 4 + 1, none⟩ = some (.int .i64 d1)) (by kernel_rfl) (by kernel_rfl) ?_ (fun hH0 => ?_)
                      · exact ⟨x0, k0, k1⟩
                      refine wpAnyH_take (i := 0) (oi := { dst := some 69, op := Go.Op.load 22 (Go.Operand.tmp 2), type := 22, pos := "law.go:270", after := #[], guard := none }) (v := ?_) rfl (by kernel_rfl) (by kernel_rfl) (by kernel_rfl) (fun _ _ _ h => h) (Or.inl ⟨by rfl, ?_⟩) (by assumption) ?_
                      rotate_left
                      · intro wq hSw; (try dsimp only at hSw); go_simp; (try with_reducible rfl)
                      try simp only [Act.put, List.setIfInBounds_toArray, List.set_cons_zero, List.set_cons_succ]
                      refine wpAnyH_take (i := 1) (oi := { dst := some 70, op := Go.Op.load 22 (Go.Operand.tmp 2), type := 22, pos := "law.go:270", after := #[], guard := none }) (v := ?_) rfl (by kernel_rfl) (by kernel_rfl) (by kernel_rfl) (fun _ _ _ h => h) (Or.inl ⟨by rfl, ?_⟩) (by assumption) ?_
                      rotate_left
                      · intro wq hSw; (try dsimp only at hSw); go_simp; (try with_reducible rfl)
                      try simp only [Act.put, List.setIfInBounds_toArray, List.set_cons_zero, List.set_cons_succ]
                      refine wpAnyH_take (i := 2) (oi := { dst := some 71, op := Go.Op.move (Go.Operand.tmp 12), type := 3, pos := "law.go:270", after := #[], guard := none }) (v := ?_) rfl (by kernel_rfl) (by kernel_rfl) (by kernel_rfl) (fun _ _ _ h => h) (Or.inl ⟨by rfl, ?_⟩) (by assumption) ?_
                      rotate_left
                      · intro wq hSw; (try dsimp only at hSw); go_simp; (try with_reducible rfl)
                      try simp only [Act.put, List.setIfInBounds_toArray, List.set_cons_zero, List.set_cons_succ]
                      refine wpAnyH_take (i := 3) (oi := { dst := some 72, op := Go.Op.indexAddr 22 (Go.Operand.tmp 70) (Go.Operand.tmp 71), type := 0, pos := "law.go:270", after := #[{ on := 1, ground := Go.Ground.data }, { on := 2, ground := Go.Ground.data }], guard := none }) (v := ?_) rfl (by kernel_rfl) (by kernel_rfl) (by kernel_rfl) (fun _ _ _ h => h) (Or.inl ⟨by rfl, ?_⟩) (by assumption) ?_
                      rotate_left
                      · intro wq hSw; (try dsimp only at hSw); go_simp; (try with_reducible rfl)
                      try simp only [Act.put, List.setIfInBounds_toArray, List.set_cons_zero, List.set_cons_succ]
                      refine wpAnyH_take (i := 4) (oi := { dst := some 73, op := Go.Op.fieldAddr 33 (Go.Operand.tmp 72) 0, type := 0, pos := "law.go:270", after := #[{ on := 3, ground := Go.Ground.data }], guard := none }) (v := ?_) rfl (by kernel_rfl) (by kernel_rfl) (by kernel_rfl) (fun _ _ _ h => h) (Or.inl ⟨by rfl, ?_⟩) (by assumption) ?_
                      rotate_left
                      · intro wq hSw; (try dsimp only at hSw); go_simp; (try with_reducible rfl)
                      try simp only [Act.put, List.setIfInBounds_toArray, List.set_cons_zero, List.set_cons_succ]
                      refine wpAnyH_take (i := 5) (oi := { dst := some 74, op := Go.Op.load 29 (Go.Operand.tmp 73), type := 29, pos := "law.go:270", after := #[{ on := 4, ground := Go.Ground.data }], guard := none }) (v := ?_) rfl (by kernel_rfl) (by kernel_rfl) (by kernel_rfl) (fun _ _ _ h => h) (Or.inl ⟨by rfl, ?_⟩) (by assumption) ?_
                      rotate_left
                      · intro wq hSw; (try dsimp only at hSw); go_simp; (try with_reducible rfl)
                      try simp only [Act.put, List.setIfInBounds_toArray, List.set_cons_zero, List.set_cons_succ]
                      refine wpAnyH_ready (rs := [6, 10]) (by kernel_rfl) (by simp) ?_
                      refine AllReadyH.cons (o := { dst := some 75, op := Go.Op.call { callee := Go.Callee.value (Go.Operand.func 10), args := #[Go.Operand.tmp 69, Go.Operand.tmp 74], argTypes := #[22, 29] }, type := 30, pos := "law.go:270", after := #[{ on := 0, ground := Go.Ground.data }, { on := 5, ground := Go.Ground.data }], guard := none }) rfl (fun K hK => ?_) ?_
                      · skip
                        go_simp
                        refine (HAT9.out _ (by (repeat' (first | with_reducible exact Below.refl _ _ | with_reducible assumption | with_reducible refine Below.drew ?_ | with_reducible refine below_drewN ?_ _ | with_reducible refine Below.setCell ?_ ?_ _ | with_reducible refine Below.alloc ?_ ?_ _ | omega | (simp; done) | (simp; omega))))).mono ?_
                        rintro e w21 ⟨⟨n', d', c9, rfl, hr⟩, hb21⟩
                        rw [HAA.out] at hr
                        obtain ⟨rfl, rfl, rfl⟩ := hr
                        replace x0 : w21.cell? ⟨w.heap.size, 0, none⟩ = some (.slice (some ⟨gr, off, none⟩) s.length c) := cellOf hb21 (by first | exact x0 | exact cell_drew x0 | exact cell_alloc (cell_drew x0) | exact cell_alloc x0)
                        replace k0 : w21.cell? ⟨gr, off + xk * 4, none⟩ = some (.int .i64 n1) := cellOf hb21 (by first | exact k0 | exact cell_drew k0 | exact cell_alloc (cell_drew k0) | exact cell_alloc k0)
                        replace k1 : w21.cell? ⟨gr, off + xk * 4 + 1, none⟩ = some (.int .i64 d1) := cellOf hb21 (by first | exact k1 | exact cell_drew k1 | exact cell_alloc (cell_drew k1) | exact cell_alloc k1)
                        have hw21 : Below w.heap.size w w21 := stepH (by (repeat' (first | with_reducible exact Below.refl _ _ | with_reducible assumption | with_reducible refine Below.drew ?_ | with_reducible refine below_drewN ?_ _ | with_reducible refine Below.setCell ?_ ?_ _ | with_reducible refine Below.alloc ?_ ?_ _ | omega | (simp; done) | (simp; omega)))) hb21
                        have ho21 : OnlyL [ib] wq w21 := OnlyL.step (by (repeat' (first | with_reducible exact OnlyL.refl _ _ | with_reducible assumption | with_reducible refine OnlyL.drew ?_ | with_reducible refine OnlyL.drewN ?_ _ | with_reducible refine OnlyL.setCell ?_ ?_ _ | with_reducible refine OnlyL.alloc ?_ _ | omega | (simp; done) | (simp; omega)))) hb21
                        have zo21 := ho21.size
                        replace R9 := keepH hb21 (by first | with_reducible exact drew_old R9.out | with_reducible exact blk_old (drew_old R9.out) | with_reducible exact drew_old (blk_old R9.out) | with_reducible exact blk_old R9.out)
                        replace RB9 := keepH hb21 (by first | with_reducible exact drew_old RB9.out | with_reducible exact blk_old (drew_old RB9.out) | with_reducible exact drew_old (blk_old RB9.out) | with_reducible exact blk_old RB9.out)
                        replace IB9 := keepH hb21 (by first | with_reducible exact drew_old IB9.out | with_reducible exact blk_old (drew_old IB9.out) | with_reducible exact drew_old (blk_old IB9.out) | with_reducible exact blk_old IB9.out)
                        replace St9 := keepH hb21 (by first | with_reducible exact drew_old St9.out | with_reducible exact blk_old (drew_old St9.out) | with_reducible exact drew_old (blk_old St9.out) | with_reducible exact blk_old St9.out)
                        replace P9 := keepH hb21 (by first | with_reducible exact drew_old P9.out | with_reducible exact blk_old (drew_old P9.out) | with_reducible exact drew_old (blk_old P9.out) | with_reducible exact blk_old P9.out)
                        replace S9 := keepH hb21 (by first | with_reducible exact drew_old S9.out | with_reducible exact blk_old (drew_old S9.out) | with_reducible exact drew_old (blk_old S9.out) | with_reducible exact blk_old S9.out)
                        replace N9 := keepH hb21 (by first | with_reducible exact drew_old N9.out | with_reducible exact blk_old (drew_old N9.out) | with_reducible exact drew_old (blk_old N9.out) | with_reducible exact blk_old N9.out)
                        have lR9 := lt_of_H R9
                        have lRB9 := lt_of_H RB9
                        have lIB9 := lt_of_H IB9
                        have lSt9 := lt_of_H St9
                        have lP9 := lt_of_H P9
                        have lS9 := lt_of_H S9
                        have lN9 := lt_of_H N9
                        have lg := cell_lt k0
                        go_wp2_with fail
                        refine hK.out _ _ ?_ (fun hH1 => ?_)
                        · (try dsimp only); exact ⟨x0, k0, k1⟩
                        clear hK K
                        clear hH0
                        try simp only [Act.put, List.setIfInBounds_toArray, List.set_cons_zero, List.set_cons_succ]
                        refine wpAnyH_take (i := 7) (oi := { dst := some 68, op := Go.Op.move (Go.Operand.tmp 75), type := 30, pos := "law.go:270", after := #[{ on := 6, ground := Go.Ground.data }], guard := none }) (v := ?_) rfl (by kernel_rfl) (by kernel_rfl) (by kernel_rfl) (fun _ _ _ h => h) (Or.inl ⟨by rfl, ?_⟩) (by assumption) ?_
                        rotate_left
                        · intro wq hSw; (try dsimp only at hSw); go_simp; (try with_reducible rfl)
                        try simp only [Act.put, List.setIfInBounds_toArray, List.set_cons_zero, List.set_cons_succ]
                        refine wpAnyH_take (i := 8) (oi := { dst := some 76, op := Go.Op.extract (Go.Operand.tmp 68) 0, type := 29, pos := "law.go:270", after := #[{ on := 7, ground := Go.Ground.data }], guard := none }) (v := ?_) rfl (by kernel_rfl) (by kernel_rfl) (by kernel_rfl) (fun _ _ _ h => h) (Or.inl ⟨by rfl, ?_⟩) (by assumption) ?_
                        rotate_left
                        · intro wq hSw; (try dsimp only at hSw); go_simp; (try with_reducible rfl)
                        try simp only [Act.put, List.setIfInBounds_toArray, List.set_cons_zero, List.set_cons_succ]
                        refine wpAnyH_take (i := 9) (oi := { dst := some 77, op := Go.Op.extract (Go.Operand.tmp 68) 1, type := 3, pos := "law.go:270", after := #[{ on := 7, ground := Go.Ground.data }, { on := 11, ground := Go.Ground.gcOnly Go.Departure.lateStores }], guard := none }) (v := ?_) rfl (by kernel_rfl) (by kernel_rfl) (by kernel_rfl) (fun _ _ _ h => h) (Or.inl ⟨by rfl, ?_⟩) (by assumption) ?_
                        rotate_left
                        · intro wq hSw; (try dsimp only at hSw); go_simp; (try with_reducible rfl)
                        try simp only [Act.put, List.setIfInBounds_toArray, List.set_cons_zero, List.set_cons_succ]
                        refine wpAnyH_ready (rs := [10]) (by kernel_rfl) (by simp) ?_
                        refine AllReadyH.cons (o := { dst := some 14, op := Go.Op.alloc 29, type := 0, pos := "law.go:270", after := #[], guard := none }) rfl (fun K hK => ?_) AllReadyH.nil
                        go_simp
                        refine hK.out _ _ ?_ (fun hH2 => ?_)
                        · (try dsimp only); exact ⟨(by first | exact cell_alloc x0 | exact cell_alloc (cell_drew x0)), (by first | exact cell_alloc k0 | exact cell_alloc (cell_drew k0)), (by first | exact cell_alloc k1 | exact cell_alloc (cell_drew k1))⟩
                        clear hK K
                        clear hH1
                        try simp only [Act.put, List.setIfInBounds_toArray, List.set_cons_zero, List.set_cons_succ]
                        refine wpAnyH_ready (rs := [11]) (by kernel_rfl) (by simp) ?_
                        refine AllReadyH.cons (o := { dst := none, op := Go.Op.store 29 (Go.Operand.tmp 14) (Go.Operand.tmp 76), type := 0, pos := "law.go:270", after := #[{ on := 10, ground := Go.Ground.data }, { on := 8, ground := Go.Ground.data }, { on := 6, ground := Go.Ground.chain }, { on := 0, ground := Go.Ground.phase }, { on := 1, ground := Go.Ground.phase }, { on := 2, ground := Go.Ground.phase }, { on := 3, ground := Go.Ground.phase }, { on := 4, ground := Go.Ground.phase }, { on := 5, ground := Go.Ground.phase }, { on := 6, ground := Go.Ground.phase }, { on := 7, ground := Go.Ground.phase }, { on := 8, ground := Go.Ground.phase }, { on := 9, ground := Go.Ground.textOnly Go.Departure.lateStores }, { on := 10, ground := Go.Ground.phase }], guard := none }) rfl (fun K hK => ?_) AllReadyH.nil
                        go_simp
                        refine hK.out _ _ ?_ (fun hH3 => ?_)
                        · (try dsimp only); exact ⟨(by repeat (first | exact x0 | refine cell_set ?_ (by first | assumption | (dsimp only; assumption) | (dsimp only; omega)) | refine cell_alloc ?_ | refine cell_drew ?_)), (by repeat (first | exact k0 | refine cell_set ?_ (by first | assumption | (dsimp only; assumption) | (dsimp only; omega)) | refine cell_alloc ?_ | refine cell_drew ?_)), (by repeat (first | exact k1 | refine cell_set ?_ (by first | assumption | (dsimp only; assumption) | (dsimp only; omega)) | refine cell_alloc ?_ | refine cell_drew ?_))⟩
                        clear hK K
                        clear hH2
                        try simp only [Act.put, List.setIfInBounds_toArray, List.set_cons_zero, List.set_cons_succ]
                        refine wpAnyH_take (i := 12) (oi := { dst := some 15, op := Go.Op.assign (Go.Operand.tmp 77), type := 3, pos := "law.go:270", after := #[{ on := 9, ground := Go.Ground.data }, { on := 11, ground := Go.Ground.chain }, { on := 0, ground := Go.Ground.phase }, { on := 1, ground := Go.Ground.phase }, { on := 2, ground := Go.Ground.phase }, { on := 3, ground := Go.Ground.phase }, { on := 4, ground := Go.Ground.phase }, { on := 5, ground := Go.Ground.phase }, { on := 6, ground := Go.Ground.phase }, { on := 7, ground := Go.Ground.phase }, { on := 8, ground := Go.Ground.phase }, { on := 9, ground := Go.Ground.phase }, { on := 10, ground := Go.Ground.phase }, { on := 11, ground := Go.Ground.phase }], guard := none }) (v := ?_) rfl (by kernel_rfl) (by kernel_rfl) (by kernel_rfl) (fun _ _ _ h => h) (Or.inl ⟨by rfl, ?_⟩) (by assumption) ?_
                        rotate_left
                        · intro wq hSw; (try dsimp only at hSw); go_simp; (try with_reducible rfl)
                        try simp only [Act.put, List.setIfInBounds_toArray, List.set_cons_zero, List.set_cons_succ]
                        refine wpAnyH_done (by kernel_rfl) ?_ _
                        refine noOut_normal ?_
                        gi_wp2_with fail
                        gi_meet
                        exact ⟨_, rfl, (by (repeat' (first | with_reducible exact Below.refl _ _ | with_reducible assumption | with_reducible refine Below.drew ?_ | with_reducible refine below_drewN ?_ _ | with_reducible refine Below.setCell ?_ ?_ _ | with_reducible refine Below.alloc ?_ ?_ _ | omega | (simp; done) | (simp; omega)))), (by (repeat' (first | with_reducible exact OnlyL.refl _ _ | with_reducible assumption | with_reducible refine OnlyL.drew ?_ | with_reducible refine OnlyL.drewN ?_ _ | with_reducible refine OnlyL.setCell ?_ ?_ _ | with_reducible refine OnlyL.alloc ?_ _ | omega | (simp; done) | (simp; omega)))), (by first | with_reducible exact setH2 NBk.out | exact blk_new rfl), Lib.hid (by repeat' (first | with_reducible exact R9.out | with_reducible refine setOther ?_ (by dsimp only; omega) | with_reducible refine blk_old ?_ | with_reducible refine drew_old ?_)), Lib.hid (by repeat' (first | with_reducible exact RB9.out | with_reducible refine setOther ?_ (by dsimp only; omega) | with_reducible refine blk_old ?_ | with_reducible refine drew_old ?_)), Lib.hid (by repeat' (first | with_reducible exact IB9.out | with_reducible refine setOther ?_ (by dsimp only; omega) | with_reducible refine blk_old ?_ | with_reducible refine drew_old ?_)), Lib.hid (by repeat' (first | with_reducible exact St9.out | with_reducible refine setOther ?_ (by dsimp only; omega) | with_reducible refine blk_old ?_ | with_reducible refine drew_old ?_)), Lib.hid (by repeat' (first | with_reducible exact P9.out | with_reducible refine setOther ?_ (by dsimp only; omega) | with_reducible refine blk_old ?_ | with_reducible refine drew_old ?_)), Lib.hid (by repeat' (first | with_reducible exact S9.out | with_reducible refine setOther ?_ (by dsimp only; omega) | with_reducible refine blk_old ?_ | with_reducible refine drew_old ?_)), Lib.hid (by repeat' (first | with_reducible exact N9.out | with_reducible refine setOther ?_ (by dsimp only; omega) | with_reducible refine blk_old ?_ | with_reducible refine drew_old ?_))⟩
                      refine AllReadyH.cons (o := { dst := some 14, op := Go.Op.alloc 29, type := 0, pos := "law.go:270", after := #[], guard := none }) rfl (fun K hK => ?_) AllReadyH.nil
                      go_simp
                      refine hK.out _ _ ?_ (fun hH1 => ?_)
                      · (try dsimp only); exact ⟨(by first | exact cell_alloc x0 | exact cell_alloc (cell_drew x0)), (by first | exact cell_alloc k0 | exact cell_alloc (cell_drew k0)), (by first | exact cell_alloc k1 | exact cell_alloc (cell_drew k1))⟩
                      clear hK K
                      clear hH0
                      try simp only [Act.put, List.setIfInBounds_toArray, List.set_cons_zero, List.set_cons_succ]
                      refine wpAnyH_ready (rs := [6]) (by kernel_rfl) (by simp) ?_
                      refine AllReadyH.cons (o := { dst := some 75, op := Go.Op.call { callee := Go.Callee.value (Go.Operand.func 10), args := #[Go.Operand.tmp 69, Go.Operand.tmp 74], argTypes := #[22, 29] }, type := 30, pos := "law.go:270", after := #[{ on := 0, ground := Go.Ground.data }, { on := 5, ground := Go.Ground.data }], guard := none }) rfl (fun K hK => ?_) AllReadyH.nil
                      go_simp
                      refine (HAT9.out _ (by (repeat' (first | with_reducible exact Below.refl _ _ | with_reducible assumption | with_reducible refine Below.drew ?_ | with_reducible refine below_drewN ?_ _ | with_reducible refine Below.setCell ?_ ?_ _ | with_reducible refine Below.alloc ?_ ?_ _ | omega | (simp; done) | (simp; omega))))).mono ?_
                      rintro e w21 ⟨⟨n', d', c9, rfl, hr⟩, hb21⟩
                      rw [HAA.out] at hr
                      obtain ⟨rfl, rfl, rfl⟩ := hr
                      replace x0 : w21.cell? ⟨w.heap.size, 0, none⟩ = some (.slice (some ⟨gr, off, none⟩) s.length c) := cellOf hb21 (by first | exact x0 | exact cell_drew x0 | exact cell_alloc (cell_drew x0) | exact cell_alloc x0)
                      replace k0 : w21.cell? ⟨gr, off + xk * 4, none⟩ = some (.int .i64 n1) := cellOf hb21 (by first | exact k0 | exact cell_drew k0 | exact cell_alloc (cell_drew k0) | exact cell_alloc k0)
                      replace k1 : w21.cell? ⟨gr, off + xk * 4 + 1, none⟩ = some (.int .i64 d1) := cellOf hb21 (by first | exact k1 | exact cell_drew k1 | exact cell_alloc (cell_drew k1) | exact cell_alloc k1)
                      have hw21 : Below w.heap.size w w21 := stepH (by (repeat' (first | with_reducible exact Below.refl _ _ | with_reducible assumption | with_reducible refine Below.drew ?_ | with_reducible refine below_drewN ?_ _ | with_reducible refine Below.setCell ?_ ?_ _ | with_reducible refine Below.alloc ?_ ?_ _ | omega | (simp; done) | (simp; omega)))) hb21
                      have ho21 : OnlyL [ib] wq w21 := OnlyL.step (by (repeat' (first | with_reducible exact OnlyL.refl _ _ | with_reducible assumption | with_reducible refine OnlyL.drew ?_ | with_reducible refine OnlyL.drewN ?_ _ | with_reducible refine OnlyL.setCell ?_ ?_ _ | with_reducible refine OnlyL.alloc ?_ _ | omega | (simp; done) | (simp; omega)))) hb21
                      have zo21 := ho21.size
                      replace R9 := keepH hb21 (by first | with_reducible exact drew_old R9.out | with_reducible exact blk_old (drew_old R9.out) | with_reducible exact drew_old (blk_old R9.out) | with_reducible exact blk_old R9.out)
                      replace RB9 := keepH hb21 (by first | with_reducible exact drew_old RB9.out | with_reducible exact blk_old (drew_old RB9.out) | with_reducible exact drew_old (blk_old RB9.out) | with_reducible exact blk_old RB9.out)
                      replace IB9 := keepH hb21 (by first | with_reducible exact drew_old IB9.out | with_reducible exact blk_old (drew_old IB9.out) | with_reducible exact drew_old (blk_old IB9.out) | with_reducible exact blk_old IB9.out)
                      replace St9 := keepH hb21 (by first | with_reducible exact drew_old St9.out | with_reducible exact blk_old (drew_old St9.out) | with_reducible exact drew_old (blk_old St9.out) | with_reducible exact blk_old St9.out)
                      replace P9 := keepH hb21 (by first | with_reducible exact drew_old P9.out | with_reducible exact blk_old (drew_old P9.out) | with_reducible exact drew_old (blk_old P9.out) | with_reducible exact blk_old P9.out)
                      replace S9 := keepH hb21 (by first | with_reducible exact drew_old S9.out | with_reducible exact blk_old (drew_old S9.out) | with_reducible exact drew_old (blk_old S9.out) | with_reducible exact blk_old S9.out)
                      replace N9 := keepH hb21 (by first | with_reducible exact drew_old N9.out | with_reducible exact blk_old (drew_old N9.out) | with_reducible exact drew_old (blk_old N9.out) | with_reducible exact blk_old N9.out)
                      have NBk := keepH hb21 (by with_reducible first | exact blk_new rfl | exact drew_old (blk_new rfl))
                      have cNB := cellH NBk
                      have fNB := frozH NBk
                      have lNB := lt_of_H NBk
                      have lR9 := lt_of_H R9
                      have lRB9 := lt_of_H RB9
                      have lIB9 := lt_of_H IB9
                      have lSt9 := lt_of_H St9
                      have lP9 := lt_of_H P9
                      have lS9 := lt_of_H S9
                      have lN9 := lt_of_H N9
                      have lg := cell_lt k0
                      go_wp2_with fail
                      refine hK.out _ _ ?_ (fun hH2 => ?_)
                      · (try dsimp only); exact ⟨x0, k0, k1⟩
                      clear hK K
                      clear hH1
                      try simp only [Act.put, List.setIfInBounds_toArray, List.set_cons_zero, List.set_cons_succ]
                      refine wpAnyH_take (i := 7) (oi := { dst := some 68, op := Go.Op.move (Go.Operand.tmp 75), type := 30, pos := "law.go:270", after := #[{ on := 6, ground := Go.Ground.data }], guard := none }) (v := ?_) rfl (by kernel_rfl) (by kernel_rfl) (by kernel_rfl) (fun _ _ _ h => h) (Or.inl ⟨by rfl, ?_⟩) (by assumption) ?_
                      rotate_left
                      · intro wq hSw; (try dsimp only at hSw); go_simp; (try with_reducible rfl)
                      try simp only [Act.put, List.setIfInBounds_toArray, List.set_cons_zero, List.set_cons_succ]
                      refine wpAnyH_take (i := 8) (oi := { dst := some 76, op := Go.Op.extract (Go.Operand.tmp 68) 0, type := 29, pos := "law.go:270", after := #[{ on := 7, ground := Go.Ground.data }], guard := none }) (v := ?_) rfl (by kernel_rfl) (by kernel_rfl) (by kernel_rfl) (fun _ _ _ h => h) (Or.inl ⟨by rfl, ?_⟩) (by assumption) ?_
                      rotate_left
                      · intro wq hSw; (try dsimp only at hSw); go_simp; (try with_reducible rfl)
                      try simp only [Act.put, List.setIfInBounds_toArray, List.set_cons_zero, List.set_cons_succ]
                      refine wpAnyH_take (i := 9) (oi := { dst := some 77, op := Go.Op.extract (Go.Operand.tmp 68) 1, type := 3, pos := "law.go:270", after := #[{ on := 7, ground := Go.Ground.data }, { on := 11, ground := Go.Ground.gcOnly Go.Departure.lateStores }], guard := none }) (v := ?_) rfl (by kernel_rfl) (by kernel_rfl) (by kernel_rfl) (fun _ _ _ h => h) (Or.inl ⟨by rfl, ?_⟩) (by assumption) ?_
                      rotate_left
                      · intro wq hSw; (try dsimp only at hSw); go_simp; (try with_reducible rfl)
                      try simp only [Act.put, List.setIfInBounds_toArray, List.set_cons_zero, List.set_cons_succ]
                      refine wpAnyH_ready (rs := [11]) (by kernel_rfl) (by simp) ?_
                      refine AllReadyH.cons (o := { dst := none, op := Go.Op.store 29 (Go.Operand.tmp 14) (Go.Operand.tmp 76), type := 0, pos := "law.go:270", after := #[{ on := 10, ground := Go.Ground.data }, { on := 8, ground := Go.Ground.data }, { on := 6, ground := Go.Ground.chain }, { on := 0, ground := Go.Ground.phase }, { on := 1, ground := Go.Ground.phase }, { on := 2, ground := Go.Ground.phase }, { on := 3, ground := Go.Ground.phase }, { on := 4, ground := Go.Ground.phase }, { on := 5, ground := Go.Ground.phase }, { on := 6, ground := Go.Ground.phase }, { on := 7, ground := Go.Ground.phase }, { on := 8, ground := Go.Ground.phase }, { on := 9, ground := Go.Ground.textOnly Go.Departure.lateStores }, { on := 10, ground := Go.Ground.phase }], guard := none }) rfl (fun K hK => ?_) AllReadyH.nil
                      go_simp
                      refine hK.out _ _ ?_ (fun hH3 => ?_)
                      · (try dsimp only); exact ⟨(by repeat (first | exact x0 | refine cell_set ?_ (by first | assumption | (dsimp only; assumption) | (dsimp only; omega)) | refine cell_alloc ?_ | refine cell_drew ?_)), (by repeat (first | exact k0 | refine cell_set ?_ (by first | assumption | (dsimp only; assumption) | (dsimp only; omega)) | refine cell_alloc ?_ | refine cell_drew ?_)), (by repeat (first | exact k1 | refine cell_set ?_ (by first | assumption | (dsimp only; assumption) | (dsimp only; omega)) | refine cell_alloc ?_ | refine cell_drew ?_))⟩
                      clear hK K
                      clear hH2
                      try simp only [Act.put, List.setIfInBounds_toArray, List.set_cons_zero, List.set_cons_succ]
                      refine wpAnyH_take (i := 12) (oi := { dst := some 15, op := Go.Op.assign (Go.Operand.tmp 77), type := 3, pos := "law.go:270", after := #[{ on := 9, ground := Go.Ground.data }, { on := 11, ground := Go.Ground.chain }, { on := 0, ground := Go.Ground.phase }, { on := 1, ground := Go.Ground.phase }, { on := 2, ground := Go.Ground.phase }, { on := 3, ground := Go.Ground.phase }, { on := 4, ground := Go.Ground.phase }, { on := 5, ground := Go.Ground.phase }, { on := 6, ground := Go.Ground.phase }, { on := 7, ground := Go.Ground.phase }, { on := 8, ground := Go.Ground.phase }, { on := 9, ground := Go.Ground.phase }, { on := 10, ground := Go.Ground.phase }, { on := 11, ground := Go.Ground.phase }], guard := none }) (v := ?_) rfl (by kernel_rfl) (by kernel_rfl) (by kernel_rfl) (fun _ _ _ h => h) (Or.inl ⟨by rfl, ?_⟩) (by assumption) ?_
                      rotate_left
                      · intro wq hSw; (try dsimp only at hSw); go_simp; (try with_reducible rfl)
                      try simp only [Act.put, List.setIfInBounds_toArray, List.set_cons_zero, List.set_cons_succ]
                      refine wpAnyH_done (by kernel_rfl) ?_ _
                      refine noOut_normal ?_
                      gi_wp2_with fail
                      gi_meet
                      exact ⟨_, rfl, (by (repeat' (first | with_reducible exact Below.refl _ _ | with_reducible assumption | with_reducible refine Below.drew ?_ | with_reducible refine below_drewN ?_ _ | with_reducible refine Below.setCell ?_ ?_ _ | with_reducible refine Below.alloc ?_ ?_ _ | omega | (simp; done) | (simp; omega)))), (by (repeat' (first | with_reducible exact OnlyL.refl _ _ | with_reducible assumption | with_reducible refine OnlyL.drew ?_ | with_reducible refine OnlyL.drewN ?_ _ | with_reducible refine OnlyL.setCell ?_ ?_ _ | with_reducible refine OnlyL.alloc ?_ _ | omega | (simp; done) | (simp; omega)))), (by first | with_reducible exact setH2 NBk.out | exact blk_new rfl), Lib.hid (by repeat' (first | with_reducible exact R9.out | with_reducible refine setOther ?_ (by dsimp only; omega) | with_reducible refine blk_old ?_ | with_reducible refine drew_old ?_)), Lib.hid (by repeat' (first | with_reducible exact RB9.out | with_reducible refine setOther ?_ (by dsimp only; omega) | with_reducible refine blk_old ?_ | with_reducible refine drew_old ?_)), Lib.hid (by repeat' (first | with_reducible exact IB9.out | with_reducible refine setOther ?_ (by dsimp only; omega) | with_reducible refine blk_old ?_ | with_reducible refine drew_old ?_)), Lib.hid (by repeat' (first | with_reducible exact St9.out | with_reducible refine setOther ?_ (by dsimp only; omega) | with_reducible refine blk_old ?_ | with_reducible refine drew_old ?_)), Lib.hid (by repeat' (first | with_reducible exact P9.out | with_reducible refine setOther ?_ (by dsimp only; omega) | with_reducible refine blk_old ?_ | with_reducible refine drew_old ?_)), Lib.hid (by repeat' (first | with_reducible exact S9.out | with_reducible refine setOther ?_ (by dsimp only; omega) | with_reducible refine blk_old ?_ | with_reducible refine drew_old ?_)), Lib.hid (by repeat' (first | with_reducible exact N9.out | with_reducible refine setOther ?_ (by dsimp only; omega) | with_reducible refine blk_old ?_ | with_reducible refine drew_old ?_))⟩
                  case rest =>
                    as_aux_lemma =>
                      clear hoZ hw9 hx9 R9 RB9 IB9 St9 P9 S9 N9 k0 k1 x0 zo9
                      obtain ⟨gy, rfl, hw9, hoZ, Y, R9, RB9, IB9, St9, P9, S9, N9⟩ := hcut
                      obtain ⟨wy, rfl⟩ : ∃ x : World, x = wc := ⟨_, rfl⟩
                      have zo9 := hoZ.size
                      have cY := cellH Y
                      have cP := cellH P9
                      gi_wp2_with fail
                      first | refine round_open ?_ | refine round_open2 ?_ | refine round_open3 ?_ | refine round_open4 ?_
                      by_cases hxq : xq = pq
                      · refine (sameB_is _ _ _ _ true _ (by rw [hxq]; simp)).mono ?_
                        rintro e wt ⟨rfl, hbt⟩
                        replace hoZ : OnlyL [ib] wq wt := OnlyL.step hoZ hbt
                        replace hw9 : Below w.heap.size w wt := stepH hw9 hbt
                        replace R9 := keepH hbt R9.out
                        replace RB9 := keepH hbt RB9.out
                        replace IB9 := keepH hbt IB9.out
                        replace St9 := keepH hbt St9.out
                        replace P9 := keepH hbt P9.out
                        replace S9 := keepH hbt S9.out
                        replace N9 := keepH hbt N9.out
                        clear hbt cY cP Y
                        have zo9 := hoZ.size

                        have HLI : Hid (TiI (topsL s 1) ib w7 (pre ++ [(xk, xq)]) wt) := by
                          refine ⟨?_, HI2.out.trans (OnlyL.below hoZ (by omega) (fun k hk => by simp only [List.mem_singleton] at hk; omega)), ?_⟩
                          · rw [show ((pre ++ [(xk, xq)]).length : Int) = (pre.length : Int) + 1 by simp]
                            exact IB9.out
                          · rw [List.length_append, List.length_singleton, take_snoc HP.out, ← HI3.out, HPK.out, hxq]
                        have HKF := Lib.hid (OnlyL.from hoZ w7.heap.size HCI.out)
                        have HKB : Hid (KeepR w.heap.size w1.heap.size w2.heap.size wq wt) := OnlyL.keepR hoZ (by omega) (by omega) (fun k hk => by simp only [List.mem_singleton] at hk; omega)
                        have cB9 := cellH RB9
                        have cT9 := cellH St9
                        have cI9 := cellH IB9

                        gi_wp2_with fail
                        exact ⟨HKF.out, HKB.out, HLI.out⟩
                      · refine (sameB_is _ _ _ _ false _ (by
                          rw [Bool.and_eq_false_imp]
                          intro h
                          rw [beq_eq_false_iff_ne]
                          exact fun h2 => hxq (Rat.ext (by simpa using h) (by exact_mod_cast h2)))).mono ?_
                        rintro e wt ⟨rfl, hbt⟩
                        replace hoZ : OnlyL [ib] wq wt := OnlyL.step hoZ hbt
                        replace hw9 : Below w.heap.size w wt := stepH hw9 hbt
                        replace R9 := keepH hbt R9.out
                        replace RB9 := keepH hbt RB9.out
                        replace IB9 := keepH hbt IB9.out
                        replace St9 := keepH hbt St9.out
                        replace P9 := keepH hbt P9.out
                        replace S9 := keepH hbt S9.out
                        replace N9 := keepH hbt N9.out
                        clear hbt cY cP Y
                        have zo9 := hoZ.size

                        have cR9 := cellH R9
                        have fR9 := frozH R9
                        gi_wp2_with fail
                        exact ⟨OnlyL.from (L := [ib, w.heap.size + 1 + 1]) (OnlyL.setCell (OnlyL.wider hoZ (by simp)) (.inl (by simp)) _) _ HCL.out, .inl (fun h => hxq (congrArg Prod.snd (prefix_one h HP.out)))⟩
                · have hk8 : ((xk : Int) != (pre.length : Int) + 1) = true := by rw [bne_iff_ne]; omega
                  have cR9 := cellH R9
                  have fR9 := frozH R9
                  gi_wp2_with fail
                  exact ⟨OnlyL.from (L := [ib, w.heap.size + 1 + 1]) (OnlyL.setCell (OnlyL.wider hoZ (by simp)) (.inl (by simp)) _) _ HCL.out, .inl (fun h => by have h9 := congrArg Prod.fst (prefix_one h HP.out); dsimp only at h9; omega)⟩
              · have hmx : decide (max (n0 : Int) 1 ≤ (pre.length : Int) + 1) = true := decide_eq_true (by have := HN9.out; omega)
                have cR9 := cellH R9
                have fR9 := frozH R9
                gi_wp2_with fail
                exact ⟨OnlyL.from (L := [ib, w.heap.size + 1 + 1]) (OnlyL.setCell (OnlyL.wider hoZ (by simp)) (.inl (by simp)) _) _ HCL.out, .inl (fun h => by have h9 := prefix_len h; have := HTL.out; omega)⟩
            case done1 =>
              intro D1 xs W hD1 hxs hI hK
              rw [hxs] at hI
              obtain ⟨i1, i2, i3⟩ := hI
              rw [HTL.out] at i1
              have HKD := Lib.hid hK
              subst ha
              have zq := i2.size
              have St8 : Hid (W.heap[w.heap.size + 1]? = some (.cells #[.int .i64 stop] 3 (0, 0))) := (i2.block _ l7St).trans St7.out
              have R8 : Hid (W.heap[w.heap.size + 1 + 1]? = some (.cells #[.bool false] 4 (0, 0))) := (i2.block _ l7R).trans R7.out
              have S8 : Hid (W.heap[w.heap.size]? = some (.cells #[.slice A s.length c] 22 (0, 0))) := (i2.block _ l7S).trans S7.out
              have N8 : Hid (W.heap[w2.heap.size]? = some (.cells #[.int .i64 n0] 3 (0, 0))) := (i2.block _ l7N).trans N7.out
              have BX8 : Hid (W.heap[Bx]? = some (.cells #[.slice A2 s.length c2] 22 (0, 0))) := (i2.block _ l7BX).trans BX7.out
              have RB8 : Hid (W.heap[rb9]? = some (.cells #[.int .i64 1] 3 (0, 0))) := (i2.block _ l7RB).trans RB7.out
              have hw8 : Below w.heap.size w W := hw7.trans (i2.mono zw6)
              have hx8 : Below w2.heap.size w2 W := hx7.trans (i2.mono zx6)
              have KD08 := Lib.hid ((i2.block _ (by have := lD0; omega)).trans KD07.out)
              have IB8 : Hid (W.heap[ib]? = some (.cells #[.int .i64 TL] 3 (0, 0))) := i1
              have cSt := cellH St8
              have cN := cellH N8
              have cRB := cellH RB8
              have cIB := cellH IB8
              have kwn : IntKind.i64.wrap ((n0 : Int) - 1) = (n0 : Int) - 1 := by rw [IntKind.wrap_i64]; have := HN9.out; omega
              have e6 : ((TL : Int) != max ((n0 : Int) - 1) 0) = false := by rw [bne_eq_false_iff_eq]; have := HN9.out; omega
              clear i1 i2 i3 hK hxs
              gi_wp2_with fail
              clear kwn e6
              have RB9 : Hid ((W.alloc (.cells #[.int .i64 2] 3)).heap[W.heap.size]? = some (.cells #[.int .i64 2] 3 (0, 0))) := blk_new rfl
              have St6 := Lib.hid (blk_old (o := .cells #[.int .i64 2] 3) St8.out)
              have R6 := Lib.hid (blk_old (o := .cells #[.int .i64 2] 3) R8.out)
              have S6 := Lib.hid (blk_old (o := .cells #[.int .i64 2] 3) S8.out)
              have N6 := Lib.hid (blk_old (o := .cells #[.int .i64 2] 3) N8.out)
              have BX6 := Lib.hid (blk_old (o := .cells #[.int .i64 2] 3) BX8.out)
              have KD1 := Lib.hid (blk_old (o := .cells #[.int .i64 2] 3) HKD.out)
              have KD0b := Lib.hid (blk_old (o := .cells #[.int .i64 2] 3) KD08.out)
              have zw8 := hw8.size
              have zx8 := hx8.size
              have hw6 : Below w.heap.size w (W.alloc (.cells #[.int .i64 2] 3)) := by (repeat' (first | with_reducible exact Below.refl _ _ | with_reducible assumption | with_reducible refine Below.drew ?_ | with_reducible refine below_drewN ?_ _ | with_reducible refine Below.setCell ?_ ?_ _ | with_reducible refine Below.alloc ?_ ?_ _ | omega | (simp; done) | (simp; omega)))
              have hx6 : Below w2.heap.size w2 (W.alloc (.cells #[.int .i64 2] 3)) := by (repeat' (first | with_reducible exact Below.refl _ _ | with_reducible assumption | with_reducible refine Below.drew ?_ | with_reducible refine below_drewN ?_ _ | with_reducible refine Below.setCell ?_ ?_ _ | with_reducible refine Below.alloc ?_ ?_ _ | omega | (simp; done) | (simp; omega)))
              obtain ⟨rb9, hrb⟩ : ∃ rb9, W.heap.size = rb9 := ⟨_, rfl⟩
              clear St8 R8 S8 N8 BX8 RB8 IB8 HKD hw8 hx8 cSt cRB cIB cN St7 R7 S7 N7 BX7 RB7 IB7 hw7 hx7 HA7
              generalize (W.alloc (.cells #[.int .i64 2] 3)) = w69 at *
              rw [hrb] at RB9 ⊢
              rw [hrb] at zw8 zx8 zq
              clear hrb
              have cRB := cellH RB9
              have cR := cellH R6
              have fzR := frozH R6
              rw [roundsIn_succ]
              gi_wp2_with fail

              have k1 : (w69.setCell ⟨w.heap.size + 1 + 1, 0, none⟩ (.bool true)).heap[D1]? = some (.deferred (some [])) := (KeepsOthers.setCell _ _ _).same D1 _ KD1.out rfl
              have k0 : ((w69.setCell ⟨w.heap.size + 1 + 1, 0, none⟩ (.bool true)).putObj D1 (.deferred none)).heap[D0]? = some (.deferred (some [])) := (World.putObj_heap_other (by omega)).trans ((KeepsOthers.setCell _ _ _).same D0 _ KD0b.out rfl)
              have HR : Hid ((((w69.setCell ⟨w.heap.size + 1 + 1, 0, none⟩ (.bool true)).putObj D1 (.deferred none)).putObj D0 (.deferred none)).heap[w.heap.size + 1 + 1]? = some (.cells #[.bool true] 4 (0, 0))) := (World.putObj_heap_other (by omega)).trans ((World.putObj_heap_other (by omega)).trans (setBox R6.out _))
              have hB : Below w.heap.size w (((w69.setCell ⟨w.heap.size + 1 + 1, 0, none⟩ (.bool true)).putObj D1 (.deferred none)).putObj D0 (.deferred none)) := Below.trans (Below.trans (hw6.setCell (by dsimp only; omega) _) (belowK_b (w := w) (Nat.le_refl _) _ D1 _ _ (by omega) k1 rfl rfl)) (belowK_b (w := w) (Nat.le_refl _) _ D0 _ _ (by omega) k0 rfl rfl)
              refine ⟨by simp, .inl ⟨_, _, rfl, run_takeDeferred k1, ⟨by simp, .inl ⟨_, _, rfl, run_takeDeferred k0, ?_⟩⟩⟩⟩
              clear k1 k0
              generalize (((w69.setCell ⟨w.heap.size + 1 + 1, 0, none⟩ (.bool true)).putObj D1 (.deferred none)).putObj D0 (.deferred none)) = wz at HR hB ⊢
              have c4 := cellH HR
              exact ⟨_, (by simp [results, Tryd.results3, go_sem, c4]), rfl, hB⟩

            case stop1 =>
              rintro D1 c pre W hD hpre hX hK
              rcases hX with h | ⟨h1, _, _⟩
              · exact absurd hpre h
              · omega

set_option maxRecDepth 100000 in
theorem scaleTops_walk (s : List BI) (A : Option Addr) (c : Nat) (stop : Int) (E : Nat → Addr) (w : World) (hl : RowAt encR 4 w w.heap.size A s) (hI : ∀ b ∈ s, In4 b) (hE : Env LC E w) :
    Calls Tryd.prog 3 #[.slice A s.length c, .int .i64 stop] w fun e w' => e = .returned (.bool true) ∧ Below w.heap.size w w' := by
  by_cases h : 200 < s.length
  · exact scaleTops_x s A c stop E w h hE
  · exact scaleTops_g s A c stop E w hl hI hE (by omega)

end Go.Proofs.YtmodofbelpaelaaDoor
