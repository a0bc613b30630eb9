/- BootEach's walk. -/
import Derived.Test.YtodlbfekoohpoaaDoorEachW
namespace Go.Proofs.YtodlbfekoohpoaaDoor
open Go.RowKit Go.Shelf
attribute [local go_sem] Oper.semAt_some

set_option maxRecDepth 100000 in
set_option maxHeartbeats 32000000 in
theorem eachB_any (notes stop : Int) (E : Nat → Addr) (m : Int) (w : World) (hE : Env L5 E w) (hm : w.cell? ⟨5, 0, none⟩ = some (.int .i64 m)) (hs1 : -9223372036854775808 ≤ stop ∧ stop ≤ 9223372036854775807) :
    Calls Tryd.prog 6 #[.int .i64 notes, .int .i64 stop] w fun e w' => e = .returned (.bool true) ∧ Below w.heap.size w w' := by
  have HE := Lib.hid hE
  have HM := Lib.hid hm
  have hfn := funNil5 (.func 43)
  clear hE hm
  refine (callsIn_wide (n := 3)).1 ?_; refine callsIn_of_wp_marks Tryd.func6 rfl trivial ?_ rfl; simp only [Tryd.ntmps6, List.size_toArray, List.length_cons, List.length_nil, Nat.reduceAdd, Nat.reduceSub, Array.replicate_succ, Array.replicate_zero, List.push_toArray, List.append_toArray, List.nil_append, List.cons_append]
  gi_wp2_with fail
  first | refine wide_open ?_ | refine wide_open2 ?_
  refine (first_any E m _ (HE.out.below (by (repeat' (first | with_reducible exact Below.refl _ _ | with_reducible assumption | with_reducible refine Below.drew ?_ | with_reducible refine below_drewN ?_ _ | with_reducible refine Below.setCell ?_ ?_ _ | with_reducible refine Below.alloc ?_ ?_ _ | omega | (simp; done) | (simp; omega))))) (cell_alloc (cell_alloc HM.out))).mono ?_
  rintro e w1 ⟨rfl, hb1⟩
  have hw1 : Below w.heap.size w w1 := stepH (by (repeat' (first | with_reducible exact Below.refl _ _ | with_reducible assumption | with_reducible refine Below.drew ?_ | with_reducible refine below_drewN ?_ _ | with_reducible refine Below.setCell ?_ ?_ _ | with_reducible refine Below.alloc ?_ ?_ _ | omega | (simp; done) | (simp; omega)))) hb1
  have St := keepH hb1 (g := w.heap.size) (blk_old (blk_new rfl))
  have R := keepH hb1 (g := w.heap.size + 1) (blk_new (by simp))
  have E1 := Lib.hid (HE.out.below hw1)
  have M1 := Lib.hid (cellOf hw1 HM.out)
  have lR1 := lt_of_H R
  clear hb1
  gi_wp2_with fail
  first | refine wide_open ?_ | refine wide_open2 ?_
  refine (begins_any notes E m _ E1.out M1.out).mono ?_
  rintro e w2 ⟨L, P, U, r, pb, rv, v, vr, kN, um, rfl, hpl, hb2⟩
  have hw2 : Below w.heap.size w w2 := stepH hw1 hb2
  have HFK := Lib.hid hpl.out.1.far
  have HONE := Lib.hid (zN_one hpl.out.2)
  have hN2 : (zN kN).length ≤ 200 := hpl.out.1.pr.rl.len
  have St := keepH hb2 St.out
  have R := keepH hb2 R.out
  have HPL := Lib.hid hpl.out.1
  have cP : w2.cell? ⟨pb, 1, none⟩ = some (.pointer (some ⟨L, 0, none⟩)) := hpl.out.1.bx.cell 1
  have lP := hpl.out.1.bx.1.lt
  have zb2 := hb2.size
  generalize zN kN = N at HONE hN2 HPL
  obtain ⟨b, hb⟩ : ∃ b, w1.heap.size = b := ⟨_, rfl⟩
  rw [hb] at HFK HPL zb2 lR1
  clear hpl hb2 hw1 E1 M1 hb
  gi_wp2_with fail
  first | refine wide_open ?_ | refine wide_open2 ?_
  refine (each_any L _).mono ?_
  rintro e w3 ⟨⟨Bx, rfl, hBx, hbox⟩, hb3⟩
  have hq3 : Below w2.heap.size w2 w3 := stepH (by (repeat' (first | with_reducible exact Below.refl _ _ | with_reducible assumption | with_reducible refine Below.drew ?_ | with_reducible refine below_drewN ?_ _ | with_reducible refine Below.setCell ?_ ?_ _ | with_reducible refine Below.alloc ?_ ?_ _ | omega | (simp; done) | (simp; omega)))) hb3
  have hw3 : Below w.heap.size w w3 := stepH hw2 hq3
  have QB := keepH hb3 (g := w2.heap.size) (blk_new rfl)
  have hBx2 : w2.heap.size ≤ Bx := Nat.le_trans (by simp) hBx
  clear hb3 cP hBx
  gi_wp2_with fail
  have zq := hq3.size
  have zq3 := hw3.size
  have hx : Below w2.heap.size w2 (w3.alloc (.cells #[.int .i64 0] 3)) := by (repeat' (first | with_reducible exact Below.refl _ _ | with_reducible assumption | with_reducible refine Below.drew ?_ | with_reducible refine below_drewN ?_ _ | with_reducible refine Below.setCell ?_ ?_ _ | with_reducible refine Below.alloc ?_ ?_ _ | omega | (simp; done) | (simp; omega)))
  have HRF : Hid (RF b E m L P U r pb rv v vr N um w.heap.size w2.heap.size Bx w3.heap.size stop 0 (w3.alloc (.cells #[.int .i64 0] 3))) :=
    ⟨(hx.block _ (lt_of_H St)).trans St.out, (hx.block _ (lt_of_H R)).trans R.out, blk_old QB.out, blk_old hbox.out, blk_new rfl, HPL.out.below hx⟩
  have hw6 : Below w.heap.size w (w3.alloc (.cells #[.int .i64 0] 3)) := by (repeat' (first | with_reducible exact Below.refl _ _ | with_reducible assumption | with_reducible refine Below.drew ?_ | with_reducible refine below_drewN ?_ _ | with_reducible refine Below.setCell ?_ ?_ _ | with_reducible refine Below.alloc ?_ ?_ _ | omega | (simp; done) | (simp; omega)))
  have hu6 : w3.heap.size < (w3.alloc (.cells #[.int .i64 0] 3)).heap.size := by simp
  obtain ⟨rb, hrb⟩ : ∃ rb, w3.heap.size = rb := ⟨_, rfl⟩
  obtain ⟨zB, hzB⟩ : ∃ zB, w2.heap.size = zB := ⟨_, rfl⟩
  obtain ⟨sS, hsS⟩ : ∃ sS, w.heap.size = sS := ⟨_, rfl⟩
  have HSS := Lib.hid hsS
  clear St R QB hbox HPL hw2 hw3 hq3 hx HE HM lP zq3
  generalize (w3.alloc (.cells #[.int .i64 0] 3)) = w6 at *
  rw [hrb, hsS, hzB] at HRF
  rw [hrb] at hu6 zq ⊢
  rw [hzB] at HFK zb2 hBx2 zq ⊢
  rw [hsS] at lR1 ⊢
  have hqb : zB < w6.heap.size := by have := (Array.getElem?_eq_some_iff.1 HRF.out.qb).1; omega
  have hrbz0 : zB ≤ rb := zq
  clear hrb hzB hsS
  have cRB := cellH (Lib.hid HRF.out.rb)
  refine wpIn_loop_rounds 4 ?_
  rw [roundsIn_succ]
  gi_wp2_with fail
  obtain ⟨A5, c5, hv5, hc5, hm5, _⟩ := Own.rows (fun x _ => encN_len x) HRF.out.pl.pr.rl.own
  subst hv5
  have IB7 : Hid ((w6.alloc (.cells #[.int .i64 0] 3)).heap[w6.heap.size]? = some (.cells #[.int .i64 0] 3 (0, 0))) := blk_new rfl
  have h67 : Below w6.heap.size w6 (w6.alloc (.cells #[.int .i64 0] 3)) := by (repeat' (first | with_reducible exact Below.refl _ _ | with_reducible assumption | with_reducible refine Below.drew ?_ | with_reducible refine below_drewN ?_ _ | with_reducible refine Below.setCell ?_ ?_ _ | with_reducible refine Below.alloc ?_ ?_ _ | omega | (simp; done) | (simp; omega)))
  have hu7 : w6.heap.size < (w6.alloc (.cells #[.int .i64 0] 3)).heap.size := by simp
  have BX7 : Hid ((w6.alloc (.cells #[.int .i64 0] 3)).heap[Bx]? = some (.cells #[.pointer (some ⟨L, 0, none⟩)] 24 (0, 0))) := blk_old HRF.out.bx
  have lBx : Bx < w6.heap.size := (Array.getElem?_eq_some_iff.1 HRF.out.bx).1
  have LD7 := Lib.hid (HRF.out.pl.pr.st.led.below h67)
  have zw6 := hw6.size
  obtain ⟨ib, hib⟩ : ∃ ib, w6.heap.size = ib := ⟨_, rfl⟩
  have HIB := Lib.hid hib
  generalize (w6.alloc (.cells #[.int .i64 0] 3)) = w7 at IB7 h67 hu7 BX7 LD7 ⊢
  rw [hib] at IB7 h67 hu7 lBx hu6 hqb zw6 ⊢
  clear hib cRB
  generalize ha : Act.mk _ _ = a0
  refine wpIn_rangeFunc_ownH rfl (by decide) (gf := 43) (lb := #[.pointer (some ⟨Bx, 0, none⟩)]) (by rw [← ha]; rfl) trivial (enters_of Tryd.func43 (by kernel_rfl) rfl)
    (each1_stops b L P U um v N (3 - 1) Bx ib lBx w7 (Nat.le_of_lt hu7) BX7 LD7.out)
    KeepC.trans (fun W l o o' hl h q1 q2 => keepC_b (m := ib) (h0 := w7.heap.size) (w := w7) (Nat.le_of_lt hu7) W l o o' hl h q1 q2) (Below.refl _ _) (fun x => rfl)
    (EaI N (fun _ => True) ib w7) (EaX N ib w7 (-1)) (EaI_own (Nat.le_of_lt hu7) (Nat.le_refl _)) (fun c => EaX_own c (Nat.le_of_lt hu7) (Nat.le_refl _)) ⟨IB7.out, Below.refl _ _, rfl, trivial⟩
    (fun x a' W => ∃ Bp, w7.heap.size ≤ Bp ∧ W.heap[Bp]? = some (.cells #[.string x.1.1, .int .i64 x.1.2] 39 (0, 0)) ∧ a' = { tmps := (((a0.tmps.setIfInBounds 37 (.int .i64 x.2)).setIfInBounds 38 (.agg #[.string x.1.1, .int .i64 x.1.2])).setIfInBounds 11 (.int .i64 x.2)).setIfInBounds 12 (.pointer (some ⟨Bp, 0, none⟩)), defers := [] })
    (fun x a' s W W' row hs hg hr => by obtain ⟨Bp, h2, h3, h4⟩ := hs; exact ⟨Bp, h2, ownBlk h3 hg hr, h4⟩) ?assign0 ?body0 ?done0 ?stop0
  case assign0 =>
    intro l9 pre x W K hI hK
    obtain ⟨i1, i2, i3, i4⟩ := hI
    have zz := i2.size
    subst ha
    simp only [encE]
    gi_wp2_with fail
    have h9 := hK _ _ ((KeepsOthers.alloc W (.cells #[.string x.1.1, .int .i64 x.1.2] 39)).from _) (KeepC.ofBelow ((Below.refl _ _).alloc (Nat.le_refl _) _) (by omega)) ⟨blk_old i1, i2.alloc (by omega) _, i3, i4⟩ ⟨_, zz, blk_new rfl, rfl⟩
    simp only [List.setIfInBounds_toArray, List.set_cons_zero, List.set_cons_succ] at h9
    exact h9
  case body0 =>
    as_aux_lemma =>
    rintro l9 pre ⟨⟨xs, xv⟩, xi⟩ a' wq hl9 ⟨rr, hrr⟩ ⟨i1, i2, i3, i4⟩ ⟨Bp, p2, p3, rfl⟩ hlt
    have zq9 := i2.size
    rw [List.length_zipIdx] at hlt
    subst ha
    try simp only [List.setIfInBounds_toArray, List.set_cons_zero, List.set_cons_succ]
    have hB6 : Below ib w6 wq := h67.trans i2
    have RF8 := Lib.hid (HRF.out.below HIB.out hB6)
    have IB8 : Hid (wq.heap[ib]? = some (.cells #[.int .i64 pre.length] 3 (0, 0))) := i1
    have P8 : Hid (wq.heap[Bp]? = some (.cells #[.string xs, .int .i64 xv] 39 (0, 0))) := p3
    obtain ⟨⟨ps, pv⟩, hp⟩ : ∃ p, N[pre.length]? = some p := ⟨N[pre.length], List.getElem?_eq_getElem hlt⟩
    have HP : Hid (N.zipIdx[pre.length]? = some ((ps, pv), pre.length)) := by show _ = _; rw [List.getElem?_zipIdx, hp]; simp
    obtain ⟨g, off, hA5, hg, hcc⟩ := RF8.out.pl.pr.rl.row pre.length (ps, pv) hp
    subst hA5
    have HI2 := Lib.hid i2
    have HI3 := Lib.hid i3
    have HI4 := Lib.hid i4
    have xI : wq.cell? ⟨ib, 0, none⟩ = some (.int .i64 pre.length) := cellH IB8 0
    have xQ : wq.cell? ⟨zB, 0, none⟩ = some (.pointer (some ⟨pb, 0, none⟩)) := cellH (Lib.hid RF8.out.qb) 0
    have xP : wq.cell? ⟨pb, 2, none⟩ = some (.pointer (some ⟨r, 0, none⟩)) := RF8.out.pl.bx.cell 2
    have xR : wq.cell? ⟨r, 0, none⟩ = some (.slice (some ⟨g, off, none⟩) N.length c5) := cellH (Lib.hid RF8.out.pl.pr.rl.box) 0
    have xB0 : wq.cell? ⟨Bp, 0, none⟩ = some (.string xs) := cellH P8 0
    have xB1 : wq.cell? ⟨Bp, 1, none⟩ = some (.int .i64 xv) := cellH P8 1
    have j0 : wq.cell? ⟨g, off + pre.length * 2, none⟩ = some (.string ps) := hcc 0 _ rfl
    have j1 : wq.cell? ⟨g, off + pre.length * 2 + 1, none⟩ = some (.int .i64 pv) := hcc 1 _ rfl
    have hlt2 : (pre.length : Int) < (N.length : Int) := by omega
    have k2 : (0 : Int) ≤ (pre.length : Int) := by omega
    have k6 : ((pre.length : Int)).toNat = pre.length := by omega
    have hge : decide (N.length ≤ pre.length) = false := decide_eq_false (by omega)
    have hrbl := (Array.getElem?_eq_some_iff.1 HRF.out.rb).1
    rw [HIB.out] at hrbl
    clear hp i1 i2 i3 i4 p3 hcc hB6
    gi_upto_region 15 with fail
    have HCL : Hid (∀ k ∈ [sS + 1], ∃ cs t z, wq.heap[k]? = some (.cells cs t z)) := by
      intro k hk
      rw [List.mem_singleton.1 hk]
      exact ⟨_, _, _, RF8.out.rs⟩
    have HCI : Hid (∀ k ∈ [ib], ∃ cs t z, wq.heap[k]? = some (.cells cs t z)) := by
      intro k hk
      rw [List.mem_singleton.1 hk]
      exact ⟨_, _, _, IB8.out⟩
    by_cases hxi : xi = pre.length
    · subst hxi
      have e0 : ((pre.length : Int) != (pre.length : Int)) = false := bne_self_eq_false _
      by_cases hxs : xs = ps
      · have e1 : (xs.toList != ps.toList) = false := by rw [hxs]; exact bne_self_eq_false _
        have e1b : (xs.toList == ps.toList) = true := by rw [hxs]; exact beq_self_eq_true _
        have HXS := Lib.hid hxs
        clear hxs
        obtain ⟨bv, hb9⟩ : ∃ b, (xv != pv) = b := ⟨_, rfl⟩
        have hbv := Lib.hid hb9
        refine round_held_drew (S := fun w' => w'.cell? ⟨ib, 0, none⟩ = some (.int .i64 pre.length) ∧ w'.cell? ⟨zB, 0, none⟩ = some (.pointer (some ⟨pb, 0, none⟩)) ∧ w'.cell? ⟨pb, 2, none⟩ = some (.pointer (some ⟨r, 0, none⟩)) ∧ w'.cell? ⟨r, 0, none⟩ = some (.slice (some ⟨g, off, none⟩) N.length c5) ∧ w'.cell? ⟨Bp, 0, none⟩ = some (.string xs) ∧ w'.cell? ⟨Bp, 1, none⟩ = some (.int .i64 xv) ∧ w'.cell? ⟨g, off + pre.length * 2, none⟩ = some (.string ps) ∧ w'.cell? ⟨g, off + pre.length * 2 + 1, none⟩ = some (.int .i64 pv)) (by kernel_rfl) (by kernel_rfl) ?_ (fun hH0 => ?_)
        · exact ⟨xI, xQ, xP, xR, xB0, xB1, j0, j1⟩
        refine tkY (i := 0) (oi := q0) (v := ?_) rfl (by kernel_rfl) (fun _ _ _ h => h) (by rfl) ?_ ‹_› ?_; rotate_left
        · intro wq hSw; simp only [q0]; (try dsimp only at hSw); go_simp; (try with_reducible rfl)
        try simp only [q0, Act.put, s1, s2, s3]
        refine tkY (i := 1) (oi := q1) (v := ?_) rfl (by kernel_rfl) (fun _ _ _ h => h) (by rfl) ?_ ‹_› ?_; rotate_left
        · intro wq hSw; simp only [q1]; (try dsimp only at hSw); go_simp; (try with_reducible rfl)
        try simp only [q1, Act.put, s1, s2, s3]
        refine tkY (i := 2) (oi := q2) (v := ?_) rfl (by kernel_rfl) (fun _ _ _ h => h) (by rfl) ?_ ‹_› ?_; rotate_left
        · intro wq hSw; simp only [q2]; (try dsimp only at hSw); go_simp; (try with_reducible rfl)
        try simp only [q2, Act.put, s1, s2, s3]
        refine tkY (i := 3) (oi := q3) (v := ?_) rfl (by kernel_rfl) (fun _ _ _ h => h) (by rfl) ?_ ‹_› ?_; rotate_left
        · intro wq hSw; simp only [q3]; (try dsimp only at hSw); go_simp; (try with_reducible rfl)
        try simp only [q3, Act.put, s1, s2, s3]
        refine tkY (i := 4) (oi := q4) (v := ?_) rfl (by kernel_rfl) (fun _ _ _ h => h) (by rfl) ?_ ‹_› ?_; rotate_left
        · intro wq hSw; simp only [q4]; (try dsimp only at hSw); go_simp; (try with_reducible rfl)
        try simp only [q4, Act.put, s1, s2, s3]
        refine tkY (i := 5) (oi := q5) (v := ?_) rfl (by kernel_rfl) (fun _ _ _ h => h) (by rfl) ?_ ‹_› ?_; rotate_left
        · intro wq hSw; simp only [q5]; (try dsimp only at hSw); go_simp; (try with_reducible rfl)
        try simp only [q5, Act.put, s1, s2, s3]
        refine tkY (i := 6) (oi := q6) (v := ?_) rfl (by kernel_rfl) (fun _ _ _ h => h) (by rfl) ?_ ‹_› ?_; rotate_left
        · intro wq hSw; simp only [q6]; (try dsimp only at hSw); go_simp; (try with_reducible rfl)
        try simp only [q6, Act.put, s1, s2, s3]
        refine tkY (i := 7) (oi := q7) (v := ?_) rfl (by kernel_rfl) (fun _ _ _ h => h) (by rfl) ?_ ‹_› ?_; rotate_left
        · intro wq hSw; simp only [q7]; (try dsimp only at hSw); go_simp; (try with_reducible rfl)
        try simp only [q7, Act.put, s1, s2, s3]
        refine tkY (i := 8) (oi := q8) (v := ?_) rfl (by kernel_rfl) (fun _ _ _ h => h) (by rfl) ?_ ‹_› ?_; rotate_left
        · intro wq hSw; simp only [q8]; (try dsimp only at hSw); go_simp; (try with_reducible rfl)
        try simp only [q8, Act.put, s1, s2, s3]
        refine tkY (i := 9) (oi := q9) (v := ?_) rfl (by kernel_rfl) (fun _ _ _ h => h) (by rfl) ?_ ‹_› ?_; rotate_left
        · intro wq hSw; simp only [q9]; (try dsimp only at hSw); go_simp; (try with_reducible rfl)
        try simp only [q9, Act.put, s1, s2, s3]
        refine tkY (i := 10) (oi := q10) (v := ?_) rfl (by kernel_rfl) (fun _ _ _ h => h) (by rfl) ?_ ‹_› ?_; rotate_left
        · intro wq hSw; simp only [q10]; (try dsimp only at hSw); go_simp; (try with_reducible rfl)
        try simp only [q10, Act.put, s1, s2, s3]
        refine tkY (i := 11) (oi := q11) (v := ?_) rfl (by kernel_rfl) (fun _ _ _ h => h) (by rfl) ?_ ‹_› ?_; rotate_left
        · intro wq hSw; simp only [q11]; (try dsimp only at hSw); go_simp; (try with_reducible rfl)
        try simp only [q11, Act.put, s1, s2, s3]
        refine tkY (i := 12) (oi := q12) (v := ?_) rfl (by kernel_rfl) (fun _ _ _ h => h) (by rfl) ?_ ‹_› ?_; rotate_left
        · intro wq hSw; simp only [q12]; (try dsimp only at hSw); go_simp; (try with_reducible rfl)
        try simp only [q12, Act.put, s1, s2, s3]
        refine tkY (i := 13) (oi := q13) (v := ?_) rfl (by kernel_rfl) (fun _ _ _ h => h) (by rfl) ?_ ‹_› ?_; rotate_left
        · intro wq hSw; simp only [q13]; (try dsimp only at hSw); go_simp; (try with_reducible rfl)
        try simp only [q13, Act.put, s1, s2, s3]
        refine tkY (i := 14) (oi := q14) (v := ?_) rfl (by kernel_rfl) (fun _ _ _ h => h) (by rfl) ?_ ‹_› ?_; rotate_left
        · intro wq hSw; simp only [q14]; (try dsimp only at hSw); go_simp; (try with_reducible rfl)
        try simp only [q14, Act.put, s1, s2, s3]
        refine tkY (i := 15) (oi := q15) (v := ?_) rfl (by kernel_rfl) (fun _ _ _ h => h) (by rfl) ?_ ‹_› ?_; rotate_left
        · intro wq hSw; simp only [q15]; (try dsimp only at hSw); go_simp; (try with_reducible rfl)
        try simp only [q15, Act.put, s1, s2, s3]
        refine tkY (i := 16) (oi := q16) (v := ?_) rfl (by kernel_rfl) (fun _ _ _ h => h) (by rfl) ?_ ‹_› ?_; rotate_left
        · intro wq hSw; simp only [q16]; (try dsimp only at hSw); go_simp; (try with_reducible rfl)
        try simp only [q16, Act.put, s1, s2, s3]
        refine tkY (i := 17) (oi := q17) (v := ?_) rfl (by kernel_rfl) (fun _ _ _ h => h) (by rfl) ?_ ‹_› ?_; rotate_left
        · intro wq hSw; simp only [q17]; (try dsimp only at hSw); go_simp; (try with_reducible rfl)
        try simp only [q17, Act.put, s1, s2, s3]
        refine tkY (i := 18) (oi := q18) (v := ?_) rfl (by kernel_rfl) (fun _ _ _ h => h) (by rfl) ?_ ‹_› ?_; rotate_left
        · intro wq hSw; simp only [q18]; (try dsimp only at hSw); go_simp; (try with_reducible rfl)
        try simp only [q18, Act.put, s1, s2, s3]
        refine tkY (i := 19) (oi := q19) (v := ?_) rfl (by kernel_rfl) (fun _ _ _ h => h) (by rfl) ?_ ‹_› ?_; rotate_left
        · intro wq hSw; simp only [q19]; (try dsimp only at hSw); go_simp; (try with_reducible rfl)
        try simp only [q19, Act.put, s1, s2, s3]
        refine tkY (i := 20) (oi := q20) (v := ?_) rfl (by kernel_rfl) (fun _ _ _ h => h) (by rfl) ?_ ‹_› ?_; rotate_left
        · intro wq hSw; simp only [q20]; (try dsimp only at hSw); go_simp; (try with_reducible rfl)
        try simp only [q20, Act.put, s1, s2, s3]
        refine tkY (i := 21) (oi := q21) (v := ?_) rfl (by kernel_rfl) (fun _ _ _ h => h) (by rfl) ?_ ‹_› ?_; rotate_left
        · intro wq hSw; simp only [q21]; (try dsimp only at hSw); go_simp; (try with_reducible rfl)
        try simp only [q21, Act.put, s1, s2, s3]
        refine tkY (i := 22) (oi := q22) (v := ?_) rfl (by kernel_rfl) (fun _ _ _ h => h) (by rfl) ?_ ‹_› ?_; rotate_left
        · intro wq hSw; simp only [q22]; (try dsimp only at hSw); go_simp; (try with_reducible rfl)
        try simp only [q22, Act.put, s1, s2, s3]
        refine tkY (i := 23) (oi := q23) (v := ?_) rfl (by kernel_rfl) (fun _ _ _ h => h) (by rfl) ?_ ‹_› ?_; rotate_left
        · intro wq hSw; simp only [q23]; (try dsimp only at hSw); go_simp; (try with_reducible rfl)
        try simp only [q23, Act.put, s1, s2, s3]
        refine tkY (i := 24) (oi := q24) (v := ?_) rfl (by kernel_rfl) (fun _ _ _ h => h) (by rfl) ?_ ‹_› ?_; rotate_left
        · intro wq hSw; simp only [q24]; (try dsimp only at hSw); go_simp; (try with_reducible rfl)
        try simp only [q24, Act.put, s1, s2, s3]
        refine tkY (i := 25) (oi := q25) (v := ?_) rfl (by kernel_rfl) (fun _ _ _ h => h) (by rfl) ?_ ‹_› ?_; rotate_left
        · intro wq hSw; simp only [q25]; (try dsimp only at hSw); go_simp; (try with_reducible rfl)
        try simp only [q25, Act.put, s1, s2, s3]
        refine tkY (i := 26) (oi := q26) (v := ?_) rfl (by kernel_rfl) (fun _ _ _ h => h) (by rfl) ?_ ‹_› ?_; rotate_left
        · intro wq hSw; simp only [q26]; (try dsimp only at hSw); go_simp; (try with_reducible rfl)
        try simp only [q26, Act.put, s1, s2, s3]
        refine tkY (i := 27) (oi := q27) (v := ?_) rfl (by kernel_rfl) (fun _ _ _ h => h) (by rfl) ?_ ‹_› ?_; rotate_left
        · intro wq hSw; simp only [q27]; (try dsimp only at hSw); go_simp; (try with_reducible rfl)
        try simp only [q27, Act.put, s1, s2, s3]
        refine tkY (i := 28) (oi := q28) (v := ?_) rfl (by kernel_rfl) (fun _ _ _ h => h) (by rfl) ?_ ‹_› ?_; rotate_left
        · intro wq hSw; simp only [q28]; (try dsimp only at hSw); go_simp; (try with_reducible rfl)
        try simp only [q28, Act.put, s1, s2, s3]
        refine tkY (i := 29) (oi := q29) (v := ?_) rfl (by kernel_rfl) (fun _ _ _ h => h) (by rfl) ?_ ‹_› ?_; rotate_left
        · intro wq hSw; simp only [q29]; (try dsimp only at hSw); go_simp; (try with_reducible rfl)
        try simp only [q29, Act.put, s1, s2, s3]
        refine tkY (i := 30) (oi := q30) (v := ?_) rfl (by kernel_rfl) (fun _ _ _ h => h) (by rfl) ?_ ‹_› ?_; rotate_left
        · intro wq hSw; simp only [q30]; (try dsimp only at hSw); go_simp; (try with_reducible rfl)
        try simp only [q30, Act.put, s1, s2, s3]
        refine tkY (i := 31) (oi := q31) (v := ?_) rfl (by kernel_rfl) (fun _ _ _ h => h) (by rfl) ?_ ‹_› ?_; rotate_left
        · intro wq hSw; simp only [q31]; (try dsimp only at hSw); go_simp; (try with_reducible rfl)
        try simp only [q31, Act.put, s1, s2, s3]
        refine tkY (i := 32) (oi := q32) (v := ?_) rfl (by kernel_rfl) (fun _ _ _ h => h) (by rfl) ?_ ‹_› ?_; rotate_left
        · intro wq hSw; simp only [q32]; (try dsimp only at hSw); go_simp; (try with_reducible rfl)
        try simp only [q32, Act.put, s1, s2, s3]
        refine tkY (i := 33) (oi := q33) (v := ?_) rfl (by kernel_rfl) (fun _ _ _ h => h) (by rfl) ?_ ‹_› ?_; rotate_left
        · intro wq hSw; simp only [q33]; (try dsimp only at hSw); go_simp; (try with_reducible rfl)
        try simp only [q33, Act.put, s1, s2, s3]
        refine tkY (i := 34) (oi := q34) (v := ?_) rfl (by kernel_rfl) (fun _ _ _ h => h) (by rfl) ?_ ‹_› ?_; rotate_left
        · intro wq hSw; simp only [q34]; (try dsimp only at hSw); go_simp; (try with_reducible rfl)
        try simp only [q34, Act.put, s1, s2, s3]
        refine tkY (i := 35) (oi := q35) (v := ?_) rfl (by kernel_rfl) (fun _ _ _ h => h) (by rfl) ?_ ‹_› ?_; rotate_left
        · intro wq hSw; simp only [q35]; (try dsimp only at hSw); go_simp; (try with_reducible rfl)
        try simp only [q35, Act.put, s1, s2, s3]
        refine tkY (i := 36) (oi := q36) (v := ?_) rfl (by kernel_rfl) (fun _ _ _ h => h) (by rfl) ?_ ‹_› ?_; rotate_left
        · intro wq hSw; simp only [q36]; (try dsimp only at hSw); go_simp; (try with_reducible rfl)
        try simp only [q36, Act.put, s1, s2, s3]
        refine tkY (i := 37) (oi := q37) (v := ?_) rfl (by kernel_rfl) (fun _ _ _ h => h) (by rfl) ?_ ‹_› ?_; rotate_left
        · intro wq hSw; simp only [q37]; (try dsimp only at hSw); go_simp; (try with_reducible rfl)
        try simp only [q37, Act.put, s1, s2, s3]
        refine tkY (i := 38) (oi := q38) (v := ?_) rfl (by kernel_rfl) (fun _ _ _ h => h) (by rfl) ?_ ‹_› ?_; rotate_left
        · intro wq hSw; simp only [q38]; (try dsimp only at hSw); go_simp; (try with_reducible rfl)
        try simp only [q38, Act.put, s1, s2, s3]
        refine tkY (i := 39) (oi := q39) (v := ?_) rfl (by kernel_rfl) (fun _ _ _ h => h) (by rfl) ?_ ‹_› ?_; rotate_left
        · intro wq hSw; simp only [q39]; (try dsimp only at hSw); go_simp; (try with_reducible rfl)
        try simp only [q39, Act.put, s1, s2, s3]
        refine tkY (i := 40) (oi := q40) (v := ?_) rfl (by kernel_rfl) (fun _ _ _ h => h) (by rfl) ?_ ‹_› ?_; rotate_left
        · intro wq hSw; simp only [q40]; (try dsimp only at hSw); go_simp; (try with_reducible rfl)
        try simp only [q40, Act.put, s1, s2, s3]
        refine tkY (i := 41) (oi := q41) (v := ?_) rfl (by kernel_rfl) (fun _ _ _ h => h) (by rfl) ?_ ‹_› ?_; rotate_left
        · intro wq hSw; simp only [q41]; (try dsimp only at hSw); go_simp; (try with_reducible rfl)
        try simp only [q41, Act.put, s1, s2, s3]
        refine tkY (i := 42) (oi := q42) (v := ?_) rfl (by kernel_rfl) (fun _ _ _ h => h) (by rfl) ?_ ‹_› ?_; rotate_left
        · intro wq hSw; simp only [q42]; (try dsimp only at hSw); go_simp; (try with_reducible rfl)
        try simp only [q42, Act.put, s1, s2, s3]
        refine tkY (i := 43) (oi := q43) (v := ?_) rfl (by kernel_rfl) (fun _ _ _ h => h) (by rfl) ?_ ‹_› ?_; rotate_left
        · intro wq hSw; simp only [q43]; (try dsimp only at hSw); go_simp; (try with_reducible rfl)
        try simp only [q43, Act.put, s1, s2, s3]
        refine tkY (i := 44) (oi := q44) (v := ?_) rfl (by kernel_rfl) (fun _ _ _ h => h) (by rfl) ?_ ‹_› ?_; rotate_left
        · intro wq hSw; simp only [q44]; (try dsimp only at hSw); go_simp; (try with_reducible rfl)
        try simp only [q44, Act.put, s1, s2, s3]
        refine tkY (i := 45) (oi := q45) (v := ?_) rfl (by kernel_rfl) (fun _ _ _ h => h) (by rfl) ?_ ‹_› ?_; rotate_left
        · intro wq hSw; simp only [q45]; (try dsimp only at hSw); go_simp; (try with_reducible rfl)
        try simp only [q45, Act.put, s1, s2, s3]
        refine tkY (i := 46) (oi := q46) (v := ?_) rfl (by kernel_rfl) (fun _ _ _ h => h) (by rfl) ?_ ‹_› ?_; rotate_left
        · intro wq hSw; simp only [q46]; (try dsimp only at hSw); go_simp; (try with_reducible rfl)
        try simp only [q46, Act.put, s1, s2, s3]
        refine wpAnyH_done (by kernel_rfl) ?_ _
        refine noOut_normal ?_
        cases bv
        · have HXV : Hid (xv = pv) := by (show xv = pv); have h2 := hbv.out; simpa using h2
          try clear hb9
          have IB9 : Hid (wq.drew.heap[ib]? = some (.cells #[.int .i64 pre.length] 3 (0, 0))) := IB8.out
          have RF9 : Hid (RF b E m L P U r pb rv v (.slice (some ⟨g, off, none⟩) N.length c5) N um sS zB Bx rb stop 0 wq.drew) := RF8.out.below rfl (by (repeat' (first | with_reducible exact Below.refl _ _ | with_reducible assumption | with_reducible refine Below.drew ?_ | with_reducible refine below_drewN ?_ _ | with_reducible refine Below.setCell ?_ ?_ _ | with_reducible refine Below.alloc ?_ ?_ _ | omega | (simp; done) | (simp; omega))))
          have hoI : OnlyL [ib] wq wq.drew := OnlyL.drew (OnlyL.refl _ _)
          clear hH0 xI xQ xP xR xB0 xB1 j0 j1
          generalize wq.drew = w2 at IB9 RF9 hoI ⊢
          have hoI2 : OnlyL [ib] wq (w2.setCell ⟨ib, 0, none⟩ (.int .i64 ((pre.length : Int) + 1))) := OnlyL.setCell hoI (.inl (List.mem_singleton.2 rfl)) _
          have HEI : Hid (∀ Q : Nat → Prop, Q (pre.length + 1) → EaI N Q ib w7 (pre ++ [((xs, xv), pre.length)]) (w2.setCell ⟨ib, 0, none⟩ (.int .i64 ((pre.length : Int) + 1)))) := by
            intro Q hq
            refine ⟨?_, HI2.out.trans (OnlyL.below hoI2 (by omega) (fun k hk => by rw [List.mem_singleton.1 hk]; exact Nat.le_refl _)), ?_, by rw [List.length_append]; exact hq⟩
            · rw [show ((pre ++ [((xs, xv), pre.length)]).length : Int) = (pre.length : Int) + 1 by simp]
              exact setBox IB9.out _
            · rw [List.length_append, List.length_singleton, take_snoc HP.out, ← HI3.out, HXS.out, HXV.out]
          have HKF := Lib.hid (OnlyL.from hoI2 w7.heap.size HCI.out)
          have HKB : Hid (KeepC ib w7.heap.size wq (w2.setCell ⟨ib, 0, none⟩ (.int .i64 ((pre.length : Int) + 1)))) := KeepC.only hoI2 (by omega) (fun k hk => by rw [List.mem_singleton.1 hk]; omega)
          have cI9 := cellH IB9
          have fI9 := frozH IB9
          have lI9 := lt_of_H IB9
          have cB9 := cellH (Lib.hid RF9.out.rb)
          have cT9 := cellH (Lib.hid RF9.out.st)
          have n1 : ib ≠ rb := by omega
          have n2 : ib ≠ sS := by omega
          have kw : IntKind.i64.wrap ((pre.length : Int) + 1) = (pre.length : Int) + 1 := by rw [IntKind.wrap_i64]; omega
          have HQ := Lib.hid (HEI.out (fun _ => True) trivial)
          gi_wp2_with fail
          exact ⟨HKF.out, HKB.out, HQ.out⟩
        · have HXP : Hid (¬ ((xs, xv), pre.length) = ((ps, pv), pre.length)) := fun h => by (have h2 := hbv.out; rw [bne_iff_ne] at h2; exact h2 (by injection h with h _; injection h))
          try clear hb9
          have RF9 := Lib.hid (RF8.out.below rfl (show Below wq.heap.size wq wq.drew by (repeat' (first | with_reducible exact Below.refl _ _ | with_reducible assumption | with_reducible refine Below.drew ?_ | with_reducible refine below_drewN ?_ _ | with_reducible refine Below.setCell ?_ ?_ _ | with_reducible refine Below.alloc ?_ ?_ _ | omega | (simp; done) | (simp; omega)))))
          have hoW : OnlyL [sS + 1] wq wq.drew := OnlyL.drew (OnlyL.refl _ _)
          clear hH0 xI xQ xP xR xB0 xB1 j0 j1
          generalize wq.drew = w2 at RF9 hoW ⊢
          have cR9 := cellH (Lib.hid RF9.out.rs)
          have fzR9 := frozH (Lib.hid RF9.out.rs)
          have lR9 := lt_of_H (Lib.hid RF9.out.rs)
          gi_wp2_with fail
          exact ⟨OnlyL.from (L := [sS + 1]) (OnlyL.setCell hoW (.inl (List.mem_singleton.2 rfl)) _) _ HCL.out, .inl (fun h => HXP.out (prefix_nt h HP.out))⟩
      · have e1 : (xs.toList != ps.toList) = true := bytes_ne hxs
        have e1b : (xs.toList == ps.toList) = false := by simpa [bne] using e1
        have HXP : Hid (¬ ((xs, xv), pre.length) = ((ps, pv), pre.length)) := fun h => hxs (by injection h with h _; injection h)
        clear hxs
        refine round_held_drew (S := fun w' => w'.cell? ⟨ib, 0, none⟩ = some (.int .i64 pre.length) ∧ w'.cell? ⟨zB, 0, none⟩ = some (.pointer (some ⟨pb, 0, none⟩)) ∧ w'.cell? ⟨pb, 2, none⟩ = some (.pointer (some ⟨r, 0, none⟩)) ∧ w'.cell? ⟨r, 0, none⟩ = some (.slice (some ⟨g, off, none⟩) N.length c5) ∧ w'.cell? ⟨Bp, 0, none⟩ = some (.string xs) ∧ w'.cell? ⟨Bp, 1, none⟩ = some (.int .i64 xv) ∧ w'.cell? ⟨g, off + pre.length * 2, none⟩ = some (.string ps) ∧ w'.cell? ⟨g, off + pre.length * 2 + 1, none⟩ = some (.int .i64 pv)) (by kernel_rfl) (by kernel_rfl) ?_ (fun hH0 => ?_)
        · exact ⟨xI, xQ, xP, xR, xB0, xB1, j0, j1⟩
        refine tkY (i := 0) (oi := q0) (v := ?_) rfl (by kernel_rfl) (fun _ _ _ h => h) (by rfl) ?_ ‹_› ?_; rotate_left
        · intro wq hSw; simp only [q0]; (try dsimp only at hSw); go_simp; (try with_reducible rfl)
        try simp only [q0, Act.put, s1, s2, s3]
        refine tkY (i := 1) (oi := q1) (v := ?_) rfl (by kernel_rfl) (fun _ _ _ h => h) (by rfl) ?_ ‹_› ?_; rotate_left
        · intro wq hSw; simp only [q1]; (try dsimp only at hSw); go_simp; (try with_reducible rfl)
        try simp only [q1, Act.put, s1, s2, s3]
        refine tkY (i := 2) (oi := q2) (v := ?_) rfl (by kernel_rfl) (fun _ _ _ h => h) (by rfl) ?_ ‹_› ?_; rotate_left
        · intro wq hSw; simp only [q2]; (try dsimp only at hSw); go_simp; (try with_reducible rfl)
        try simp only [q2, Act.put, s1, s2, s3]
        refine tkY (i := 3) (oi := q3) (v := ?_) rfl (by kernel_rfl) (fun _ _ _ h => h) (by rfl) ?_ ‹_› ?_; rotate_left
        · intro wq hSw; simp only [q3]; (try dsimp only at hSw); go_simp; (try with_reducible rfl)
        try simp only [q3, Act.put, s1, s2, s3]
        refine tkY (i := 4) (oi := q4) (v := ?_) rfl (by kernel_rfl) (fun _ _ _ h => h) (by rfl) ?_ ‹_› ?_; rotate_left
        · intro wq hSw; simp only [q4]; (try dsimp only at hSw); go_simp; (try with_reducible rfl)
        try simp only [q4, Act.put, s1, s2, s3]
        refine tkY (i := 5) (oi := q5) (v := ?_) rfl (by kernel_rfl) (fun _ _ _ h => h) (by rfl) ?_ ‹_› ?_; rotate_left
        · intro wq hSw; simp only [q5]; (try dsimp only at hSw); go_simp; (try with_reducible rfl)
        try simp only [q5, Act.put, s1, s2, s3]
        refine tkY (i := 6) (oi := q6) (v := ?_) rfl (by kernel_rfl) (fun _ _ _ h => h) (by rfl) ?_ ‹_› ?_; rotate_left
        · intro wq hSw; simp only [q6]; (try dsimp only at hSw); go_simp; (try with_reducible rfl)
        try simp only [q6, Act.put, s1, s2, s3]
        refine tkY (i := 7) (oi := q7) (v := ?_) rfl (by kernel_rfl) (fun _ _ _ h => h) (by rfl) ?_ ‹_› ?_; rotate_left
        · intro wq hSw; simp only [q7]; (try dsimp only at hSw); go_simp; (try with_reducible rfl)
        try simp only [q7, Act.put, s1, s2, s3]
        refine tkY (i := 8) (oi := q8) (v := ?_) rfl (by kernel_rfl) (fun _ _ _ h => h) (by rfl) ?_ ‹_› ?_; rotate_left
        · intro wq hSw; simp only [q8]; (try dsimp only at hSw); go_simp; (try with_reducible rfl)
        try simp only [q8, Act.put, s1, s2, s3]
        refine tkY (i := 9) (oi := q9) (v := ?_) rfl (by kernel_rfl) (fun _ _ _ h => h) (by rfl) ?_ ‹_› ?_; rotate_left
        · intro wq hSw; simp only [q9]; (try dsimp only at hSw); go_simp; (try with_reducible rfl)
        try simp only [q9, Act.put, s1, s2, s3]
        refine tkY (i := 10) (oi := q10) (v := ?_) rfl (by kernel_rfl) (fun _ _ _ h => h) (by rfl) ?_ ‹_› ?_; rotate_left
        · intro wq hSw; simp only [q10]; (try dsimp only at hSw); go_simp; (try with_reducible rfl)
        try simp only [q10, Act.put, s1, s2, s3]
        refine tkY (i := 11) (oi := q11) (v := ?_) rfl (by kernel_rfl) (fun _ _ _ h => h) (by rfl) ?_ ‹_› ?_; rotate_left
        · intro wq hSw; simp only [q11]; (try dsimp only at hSw); go_simp; (try with_reducible rfl)
        try simp only [q11, Act.put, s1, s2, s3]
        refine tkY (i := 12) (oi := q12) (v := ?_) rfl (by kernel_rfl) (fun _ _ _ h => h) (by rfl) ?_ ‹_› ?_; rotate_left
        · intro wq hSw; simp only [q12]; (try dsimp only at hSw); go_simp; (try with_reducible rfl)
        try simp only [q12, Act.put, s1, s2, s3]
        refine tkY (i := 13) (oi := q13) (v := ?_) rfl (by kernel_rfl) (fun _ _ _ h => h) (by rfl) ?_ ‹_› ?_; rotate_left
        · intro wq hSw; simp only [q13]; (try dsimp only at hSw); go_simp; (try with_reducible rfl)
        try simp only [q13, Act.put, s1, s2, s3]
        refine tkY (i := 14) (oi := q14) (v := ?_) rfl (by kernel_rfl) (fun _ _ _ h => h) (by rfl) ?_ ‹_› ?_; rotate_left
        · intro wq hSw; simp only [q14]; (try dsimp only at hSw); go_simp; (try with_reducible rfl)
        try simp only [q14, Act.put, s1, s2, s3]
        refine tkY (i := 15) (oi := q15) (v := ?_) rfl (by kernel_rfl) (fun _ _ _ h => h) (by rfl) ?_ ‹_› ?_; rotate_left
        · intro wq hSw; simp only [q15]; (try dsimp only at hSw); go_simp; (try with_reducible rfl)
        try simp only [q15, Act.put, s1, s2, s3]
        refine tkY (i := 16) (oi := q16) (v := ?_) rfl (by kernel_rfl) (fun _ _ _ h => h) (by rfl) ?_ ‹_› ?_; rotate_left
        · intro wq hSw; simp only [q16]; (try dsimp only at hSw); go_simp; (try with_reducible rfl)
        try simp only [q16, Act.put, s1, s2, s3]
        refine tkY (i := 17) (oi := q17) (v := ?_) rfl (by kernel_rfl) (fun _ _ _ h => h) (by rfl) ?_ ‹_› ?_; rotate_left
        · intro wq hSw; simp only [q17]; (try dsimp only at hSw); go_simp; (try with_reducible rfl)
        try simp only [q17, Act.put, s1, s2, s3]
        refine tkY (i := 18) (oi := q18) (v := ?_) rfl (by kernel_rfl) (fun _ _ _ h => h) (by rfl) ?_ ‹_› ?_; rotate_left
        · intro wq hSw; simp only [q18]; (try dsimp only at hSw); go_simp; (try with_reducible rfl)
        try simp only [q18, Act.put, s1, s2, s3]
        refine tkY (i := 19) (oi := q19) (v := ?_) rfl (by kernel_rfl) (fun _ _ _ h => h) (by rfl) ?_ ‹_› ?_; rotate_left
        · intro wq hSw; simp only [q19]; (try dsimp only at hSw); go_simp; (try with_reducible rfl)
        try simp only [q19, Act.put, s1, s2, s3]
        refine tkY (i := 20) (oi := q20) (v := ?_) rfl (by kernel_rfl) (fun _ _ _ h => h) (by rfl) ?_ ‹_› ?_; rotate_left
        · intro wq hSw; simp only [q20]; (try dsimp only at hSw); go_simp; (try with_reducible rfl)
        try simp only [q20, Act.put, s1, s2, s3]
        refine tkY (i := 21) (oi := q21) (v := ?_) rfl (by kernel_rfl) (fun _ _ _ h => h) (by rfl) ?_ ‹_› ?_; rotate_left
        · intro wq hSw; simp only [q21]; (try dsimp only at hSw); go_simp; (try with_reducible rfl)
        try simp only [q21, Act.put, s1, s2, s3]
        refine tkY (i := 22) (oi := q22) (v := ?_) rfl (by kernel_rfl) (fun _ _ _ h => h) (by rfl) ?_ ‹_› ?_; rotate_left
        · intro wq hSw; simp only [q22]; (try dsimp only at hSw); go_simp; (try with_reducible rfl)
        try simp only [q22, Act.put, s1, s2, s3]
        refine tkY (i := 23) (oi := q23) (v := ?_) rfl (by kernel_rfl) (fun _ _ _ h => h) (by rfl) ?_ ‹_› ?_; rotate_left
        · intro wq hSw; simp only [q23]; (try dsimp only at hSw); go_simp; (try with_reducible rfl)
        try simp only [q23, Act.put, s1, s2, s3]
        refine tkY (i := 24) (oi := q24) (v := ?_) rfl (by kernel_rfl) (fun _ _ _ h => h) (by rfl) ?_ ‹_› ?_; rotate_left
        · intro wq hSw; simp only [q24]; (try dsimp only at hSw); go_simp; (try with_reducible rfl)
        try simp only [q24, Act.put, s1, s2, s3]
        refine tkY (i := 25) (oi := q25) (v := ?_) rfl (by kernel_rfl) (fun _ _ _ h => h) (by rfl) ?_ ‹_› ?_; rotate_left
        · intro wq hSw; simp only [q25]; (try dsimp only at hSw); go_simp; (try with_reducible rfl)
        try simp only [q25, Act.put, s1, s2, s3]
        refine tkY (i := 26) (oi := q26) (v := ?_) rfl (by kernel_rfl) (fun _ _ _ h => h) (by rfl) ?_ ‹_› ?_; rotate_left
        · intro wq hSw; simp only [q26]; (try dsimp only at hSw); go_simp; (try with_reducible rfl)
        try simp only [q26, Act.put, s1, s2, s3]
        refine tkY (i := 27) (oi := q27) (v := ?_) rfl (by kernel_rfl) (fun _ _ _ h => h) (by rfl) ?_ ‹_› ?_; rotate_left
        · intro wq hSw; simp only [q27]; (try dsimp only at hSw); go_simp; (try with_reducible rfl)
        try simp only [q27, Act.put, s1, s2, s3]
        refine tkY (i := 28) (oi := q28) (v := ?_) rfl (by kernel_rfl) (fun _ _ _ h => h) (by rfl) ?_ ‹_› ?_; rotate_left
        · intro wq hSw; simp only [q28]; (try dsimp only at hSw); go_simp; (try with_reducible rfl)
        try simp only [q28, Act.put, s1, s2, s3]
        refine tkY (i := 29) (oi := q29) (v := ?_) rfl (by kernel_rfl) (fun _ _ _ h => h) (by rfl) ?_ ‹_› ?_; rotate_left
        · intro wq hSw; simp only [q29]; (try dsimp only at hSw); go_simp; (try with_reducible rfl)
        try simp only [q29, Act.put, s1, s2, s3]
        refine tkY (i := 30) (oi := q30) (v := ?_) rfl (by kernel_rfl) (fun _ _ _ h => h) (by rfl) ?_ ‹_› ?_; rotate_left
        · intro wq hSw; simp only [q30]; (try dsimp only at hSw); go_simp; (try with_reducible rfl)
        try simp only [q30, Act.put, s1, s2, s3]
        refine tkY (i := 31) (oi := q31) (v := ?_) rfl (by kernel_rfl) (fun _ _ _ h => h) (by rfl) ?_ ‹_› ?_; rotate_left
        · intro wq hSw; simp only [q31]; (try dsimp only at hSw); go_simp; (try with_reducible rfl)
        try simp only [q31, Act.put, s1, s2, s3]
        refine tkN (i := 32) (oi := q32) rfl (by kernel_rfl) (fun _ _ _ h => h) (by rfl) ‹_› ?_
        try simp only [q32, Act.put, s1, s2, s3]
        refine tkN (i := 33) (oi := q33) rfl (by kernel_rfl) (fun _ _ _ h => h) (by rfl) ‹_› ?_
        try simp only [q33, Act.put, s1, s2, s3]
        refine tkN (i := 34) (oi := q34) rfl (by kernel_rfl) (fun _ _ _ h => h) (by rfl) ‹_› ?_
        try simp only [q34, Act.put, s1, s2, s3]
        refine tkN (i := 35) (oi := q35) rfl (by kernel_rfl) (fun _ _ _ h => h) (by rfl) ‹_› ?_
        try simp only [q35, Act.put, s1, s2, s3]
        refine tkN (i := 36) (oi := q36) rfl (by kernel_rfl) (fun _ _ _ h => h) (by rfl) ‹_› ?_
        try simp only [q36, Act.put, s1, s2, s3]
        refine tkN (i := 37) (oi := q37) rfl (by kernel_rfl) (fun _ _ _ h => h) (by rfl) ‹_› ?_
        try simp only [q37, Act.put, s1, s2, s3]
        refine tkN (i := 38) (oi := q38) rfl (by kernel_rfl) (fun _ _ _ h => h) (by rfl) ‹_› ?_
        try simp only [q38, Act.put, s1, s2, s3]
        refine tkN (i := 39) (oi := q39) rfl (by kernel_rfl) (fun _ _ _ h => h) (by rfl) ‹_› ?_
        try simp only [q39, Act.put, s1, s2, s3]
        refine tkN (i := 40) (oi := q40) rfl (by kernel_rfl) (fun _ _ _ h => h) (by rfl) ‹_› ?_
        try simp only [q40, Act.put, s1, s2, s3]
        refine tkN (i := 41) (oi := q41) rfl (by kernel_rfl) (fun _ _ _ h => h) (by rfl) ‹_› ?_
        try simp only [q41, Act.put, s1, s2, s3]
        refine tkN (i := 42) (oi := q42) rfl (by kernel_rfl) (fun _ _ _ h => h) (by rfl) ‹_› ?_
        try simp only [q42, Act.put, s1, s2, s3]
        refine tkN (i := 43) (oi := q43) rfl (by kernel_rfl) (fun _ _ _ h => h) (by rfl) ‹_› ?_
        try simp only [q43, Act.put, s1, s2, s3]
        refine tkN (i := 44) (oi := q44) rfl (by kernel_rfl) (fun _ _ _ h => h) (by rfl) ‹_› ?_
        try simp only [q44, Act.put, s1, s2, s3]
        refine tkN (i := 45) (oi := q45) rfl (by kernel_rfl) (fun _ _ _ h => h) (by rfl) ‹_› ?_
        try simp only [q45, Act.put, s1, s2, s3]
        refine tkY (i := 46) (oi := q46) (v := ?_) rfl (by kernel_rfl) (fun _ _ _ h => h) (by rfl) ?_ ‹_› ?_; rotate_left
        · intro wq hSw; simp only [q46]; (try dsimp only at hSw); go_simp; (try with_reducible rfl)
        try simp only [q46, Act.put, s1, s2, s3]
        refine wpAnyH_done (by kernel_rfl) ?_ _
        refine noOut_normal ?_
        have RF9 := Lib.hid (RF8.out.below rfl (show Below wq.heap.size wq wq.drew by (repeat' (first | with_reducible exact Below.refl _ _ | with_reducible assumption | with_reducible refine Below.drew ?_ | with_reducible refine below_drewN ?_ _ | with_reducible refine Below.setCell ?_ ?_ _ | with_reducible refine Below.alloc ?_ ?_ _ | omega | (simp; done) | (simp; omega)))))
        have hoW : OnlyL [sS + 1] wq wq.drew := OnlyL.drew (OnlyL.refl _ _)
        clear hH0 xI xQ xP xR xB0 xB1 j0 j1
        generalize wq.drew = w2 at RF9 hoW ⊢
        have cR9 := cellH (Lib.hid RF9.out.rs)
        have fzR9 := frozH (Lib.hid RF9.out.rs)
        have lR9 := lt_of_H (Lib.hid RF9.out.rs)
        gi_wp2_with fail
        exact ⟨OnlyL.from (L := [sS + 1]) (OnlyL.setCell hoW (.inl (List.mem_singleton.2 rfl)) _) _ HCL.out, .inl (fun h => HXP.out (prefix_nt h HP.out))⟩
    · have e0 : ((xi : Int) != (pre.length : Int)) = true := by rw [bne_iff_ne]; omega
      have HXP : Hid (¬ ((xs, xv), xi) = ((ps, pv), pre.length)) := fun h => hxi (by injection h)
      clear hxi
      refine round_held_drew (S := fun w' => w'.cell? ⟨ib, 0, none⟩ = some (.int .i64 pre.length) ∧ w'.cell? ⟨zB, 0, none⟩ = some (.pointer (some ⟨pb, 0, none⟩)) ∧ w'.cell? ⟨pb, 2, none⟩ = some (.pointer (some ⟨r, 0, none⟩)) ∧ w'.cell? ⟨r, 0, none⟩ = some (.slice (some ⟨g, off, none⟩) N.length c5) ∧ w'.cell? ⟨Bp, 0, none⟩ = some (.string xs) ∧ w'.cell? ⟨Bp, 1, none⟩ = some (.int .i64 xv) ∧ w'.cell? ⟨g, off + pre.length * 2, none⟩ = some (.string ps) ∧ w'.cell? ⟨g, off + pre.length * 2 + 1, none⟩ = some (.int .i64 pv)) (by kernel_rfl) (by kernel_rfl) ?_ (fun hH0 => ?_)
      · exact ⟨xI, xQ, xP, xR, xB0, xB1, j0, j1⟩
      refine tkY (i := 0) (oi := q0) (v := ?_) rfl (by kernel_rfl) (fun _ _ _ h => h) (by rfl) ?_ ‹_› ?_; rotate_left
      · intro wq hSw; simp only [q0]; (try dsimp only at hSw); go_simp; (try with_reducible rfl)
      try simp only [q0, Act.put, s1, s2, s3]
      refine tkY (i := 1) (oi := q1) (v := ?_) rfl (by kernel_rfl) (fun _ _ _ h => h) (by rfl) ?_ ‹_› ?_; rotate_left
      · intro wq hSw; simp only [q1]; (try dsimp only at hSw); go_simp; (try with_reducible rfl)
      try simp only [q1, Act.put, s1, s2, s3]
      refine tkY (i := 2) (oi := q2) (v := ?_) rfl (by kernel_rfl) (fun _ _ _ h => h) (by rfl) ?_ ‹_› ?_; rotate_left
      · intro wq hSw; simp only [q2]; (try dsimp only at hSw); go_simp; (try with_reducible rfl)
      try simp only [q2, Act.put, s1, s2, s3]
      refine tkY (i := 3) (oi := q3) (v := ?_) rfl (by kernel_rfl) (fun _ _ _ h => h) (by rfl) ?_ ‹_› ?_; rotate_left
      · intro wq hSw; simp only [q3]; (try dsimp only at hSw); go_simp; (try with_reducible rfl)
      try simp only [q3, Act.put, s1, s2, s3]
      refine tkY (i := 4) (oi := q4) (v := ?_) rfl (by kernel_rfl) (fun _ _ _ h => h) (by rfl) ?_ ‹_› ?_; rotate_left
      · intro wq hSw; simp only [q4]; (try dsimp only at hSw); go_simp; (try with_reducible rfl)
      try simp only [q4, Act.put, s1, s2, s3]
      refine tkY (i := 5) (oi := q5) (v := ?_) rfl (by kernel_rfl) (fun _ _ _ h => h) (by rfl) ?_ ‹_› ?_; rotate_left
      · intro wq hSw; simp only [q5]; (try dsimp only at hSw); go_simp; (try with_reducible rfl)
      try simp only [q5, Act.put, s1, s2, s3]
      refine tkY (i := 6) (oi := q6) (v := ?_) rfl (by kernel_rfl) (fun _ _ _ h => h) (by rfl) ?_ ‹_› ?_; rotate_left
      · intro wq hSw; simp only [q6]; (try dsimp only at hSw); go_simp; (try with_reducible rfl)
      try simp only [q6, Act.put, s1, s2, s3]
      refine tkY (i := 7) (oi := q7) (v := ?_) rfl (by kernel_rfl) (fun _ _ _ h => h) (by rfl) ?_ ‹_› ?_; rotate_left
      · intro wq hSw; simp only [q7]; (try dsimp only at hSw); go_simp; (try with_reducible rfl)
      try simp only [q7, Act.put, s1, s2, s3]
      refine tkY (i := 8) (oi := q8) (v := ?_) rfl (by kernel_rfl) (fun _ _ _ h => h) (by rfl) ?_ ‹_› ?_; rotate_left
      · intro wq hSw; simp only [q8]; (try dsimp only at hSw); go_simp; (try with_reducible rfl)
      try simp only [q8, Act.put, s1, s2, s3]
      refine tkY (i := 9) (oi := q9) (v := ?_) rfl (by kernel_rfl) (fun _ _ _ h => h) (by rfl) ?_ ‹_› ?_; rotate_left
      · intro wq hSw; simp only [q9]; (try dsimp only at hSw); go_simp; (try with_reducible rfl)
      try simp only [q9, Act.put, s1, s2, s3]
      refine tkY (i := 10) (oi := q10) (v := ?_) rfl (by kernel_rfl) (fun _ _ _ h => h) (by rfl) ?_ ‹_› ?_; rotate_left
      · intro wq hSw; simp only [q10]; (try dsimp only at hSw); go_simp; (try with_reducible rfl)
      try simp only [q10, Act.put, s1, s2, s3]
      refine tkY (i := 11) (oi := q11) (v := ?_) rfl (by kernel_rfl) (fun _ _ _ h => h) (by rfl) ?_ ‹_› ?_; rotate_left
      · intro wq hSw; simp only [q11]; (try dsimp only at hSw); go_simp; (try with_reducible rfl)
      try simp only [q11, Act.put, s1, s2, s3]
      refine tkY (i := 12) (oi := q12) (v := ?_) rfl (by kernel_rfl) (fun _ _ _ h => h) (by rfl) ?_ ‹_› ?_; rotate_left
      · intro wq hSw; simp only [q12]; (try dsimp only at hSw); go_simp; (try with_reducible rfl)
      try simp only [q12, Act.put, s1, s2, s3]
      refine tkY (i := 13) (oi := q13) (v := ?_) rfl (by kernel_rfl) (fun _ _ _ h => h) (by rfl) ?_ ‹_› ?_; rotate_left
      · intro wq hSw; simp only [q13]; (try dsimp only at hSw); go_simp; (try with_reducible rfl)
      try simp only [q13, Act.put, s1, s2, s3]
      refine tkY (i := 14) (oi := q14) (v := ?_) rfl (by kernel_rfl) (fun _ _ _ h => h) (by rfl) ?_ ‹_› ?_; rotate_left
      · intro wq hSw; simp only [q14]; (try dsimp only at hSw); go_simp; (try with_reducible rfl)
      try simp only [q14, Act.put, s1, s2, s3]
      refine tkY (i := 15) (oi := q15) (v := ?_) rfl (by kernel_rfl) (fun _ _ _ h => h) (by rfl) ?_ ‹_› ?_; rotate_left
      · intro wq hSw; simp only [q15]; (try dsimp only at hSw); go_simp; (try with_reducible rfl)
      try simp only [q15, Act.put, s1, s2, s3]
      refine tkN (i := 16) (oi := q16) rfl (by kernel_rfl) (fun _ _ _ h => h) (by rfl) ‹_› ?_
      try simp only [q16, Act.put, s1, s2, s3]
      refine tkN (i := 17) (oi := q17) rfl (by kernel_rfl) (fun _ _ _ h => h) (by rfl) ‹_› ?_
      try simp only [q17, Act.put, s1, s2, s3]
      refine tkN (i := 18) (oi := q18) rfl (by kernel_rfl) (fun _ _ _ h => h) (by rfl) ‹_› ?_
      try simp only [q18, Act.put, s1, s2, s3]
      refine tkN (i := 19) (oi := q19) rfl (by kernel_rfl) (fun _ _ _ h => h) (by rfl) ‹_› ?_
      try simp only [q19, Act.put, s1, s2, s3]
      refine tkN (i := 20) (oi := q20) rfl (by kernel_rfl) (fun _ _ _ h => h) (by rfl) ‹_› ?_
      try simp only [q20, Act.put, s1, s2, s3]
      refine tkN (i := 21) (oi := q21) rfl (by kernel_rfl) (fun _ _ _ h => h) (by rfl) ‹_› ?_
      try simp only [q21, Act.put, s1, s2, s3]
      refine tkN (i := 22) (oi := q22) rfl (by kernel_rfl) (fun _ _ _ h => h) (by rfl) ‹_› ?_
      try simp only [q22, Act.put, s1, s2, s3]
      refine tkN (i := 23) (oi := q23) rfl (by kernel_rfl) (fun _ _ _ h => h) (by rfl) ‹_› ?_
      try simp only [q23, Act.put, s1, s2, s3]
      refine tkN (i := 24) (oi := q24) rfl (by kernel_rfl) (fun _ _ _ h => h) (by rfl) ‹_› ?_
      try simp only [q24, Act.put, s1, s2, s3]
      refine tkN (i := 25) (oi := q25) rfl (by kernel_rfl) (fun _ _ _ h => h) (by rfl) ‹_› ?_
      try simp only [q25, Act.put, s1, s2, s3]
      refine tkN (i := 26) (oi := q26) rfl (by kernel_rfl) (fun _ _ _ h => h) (by rfl) ‹_› ?_
      try simp only [q26, Act.put, s1, s2, s3]
      refine tkN (i := 27) (oi := q27) rfl (by kernel_rfl) (fun _ _ _ h => h) (by rfl) ‹_› ?_
      try simp only [q27, Act.put, s1, s2, s3]
      refine tkN (i := 28) (oi := q28) rfl (by kernel_rfl) (fun _ _ _ h => h) (by rfl) ‹_› ?_
      try simp only [q28, Act.put, s1, s2, s3]
      refine tkN (i := 29) (oi := q29) rfl (by kernel_rfl) (fun _ _ _ h => h) (by rfl) ‹_› ?_
      try simp only [q29, Act.put, s1, s2, s3]
      refine tkY (i := 30) (oi := q30) (v := ?_) rfl (by kernel_rfl) (fun _ _ _ h => h) (by rfl) ?_ ‹_› ?_; rotate_left
      · intro wq hSw; simp only [q30]; (try dsimp only at hSw); go_simp; (try with_reducible rfl)
      try simp only [q30, Act.put, s1, s2, s3]
      refine tkY (i := 31) (oi := q31) (v := ?_) rfl (by kernel_rfl) (fun _ _ _ h => h) (by rfl) ?_ ‹_› ?_; rotate_left
      · intro wq hSw; simp only [q31]; (try dsimp only at hSw); go_simp; (try with_reducible rfl)
      try simp only [q31, Act.put, s1, s2, s3]
      refine tkN (i := 32) (oi := q32) rfl (by kernel_rfl) (fun _ _ _ h => h) (by rfl) ‹_› ?_
      try simp only [q32, Act.put, s1, s2, s3]
      refine tkN (i := 33) (oi := q33) rfl (by kernel_rfl) (fun _ _ _ h => h) (by rfl) ‹_› ?_
      try simp only [q33, Act.put, s1, s2, s3]
      refine tkN (i := 34) (oi := q34) rfl (by kernel_rfl) (fun _ _ _ h => h) (by rfl) ‹_› ?_
      try simp only [q34, Act.put, s1, s2, s3]
      refine tkN (i := 35) (oi := q35) rfl (by kernel_rfl) (fun _ _ _ h => h) (by rfl) ‹_› ?_
      try simp only [q35, Act.put, s1, s2, s3]
      refine tkN (i := 36) (oi := q36) rfl (by kernel_rfl) (fun _ _ _ h => h) (by rfl) ‹_› ?_
      try simp only [q36, Act.put, s1, s2, s3]
      refine tkN (i := 37) (oi := q37) rfl (by kernel_rfl) (fun _ _ _ h => h) (by rfl) ‹_› ?_
      try simp only [q37, Act.put, s1, s2, s3]
      refine tkN (i := 38) (oi := q38) rfl (by kernel_rfl) (fun _ _ _ h => h) (by rfl) ‹_› ?_
      try simp only [q38, Act.put, s1, s2, s3]
      refine tkN (i := 39) (oi := q39) rfl (by kernel_rfl) (fun _ _ _ h => h) (by rfl) ‹_› ?_
      try simp only [q39, Act.put, s1, s2, s3]
      refine tkN (i := 40) (oi := q40) rfl (by kernel_rfl) (fun _ _ _ h => h) (by rfl) ‹_› ?_
      try simp only [q40, Act.put, s1, s2, s3]
      refine tkN (i := 41) (oi := q41) rfl (by kernel_rfl) (fun _ _ _ h => h) (by rfl) ‹_› ?_
      try simp only [q41, Act.put, s1, s2, s3]
      refine tkN (i := 42) (oi := q42) rfl (by kernel_rfl) (fun _ _ _ h => h) (by rfl) ‹_› ?_
      try simp only [q42, Act.put, s1, s2, s3]
      refine tkN (i := 43) (oi := q43) rfl (by kernel_rfl) (fun _ _ _ h => h) (by rfl) ‹_› ?_
      try simp only [q43, Act.put, s1, s2, s3]
      refine tkN (i := 44) (oi := q44) rfl (by kernel_rfl) (fun _ _ _ h => h) (by rfl) ‹_› ?_
      try simp only [q44, Act.put, s1, s2, s3]
      refine tkN (i := 45) (oi := q45) rfl (by kernel_rfl) (fun _ _ _ h => h) (by rfl) ‹_› ?_
      try simp only [q45, Act.put, s1, s2, s3]
      refine tkY (i := 46) (oi := q46) (v := ?_) rfl (by kernel_rfl) (fun _ _ _ h => h) (by rfl) ?_ ‹_› ?_; rotate_left
      · intro wq hSw; simp only [q46]; (try dsimp only at hSw); go_simp; (try with_reducible rfl)
      try simp only [q46, Act.put, s1, s2, s3]
      refine wpAnyH_done (by kernel_rfl) ?_ _
      refine noOut_normal ?_
      have RF9 := Lib.hid (RF8.out.below rfl (show Below wq.heap.size wq wq.drew by (repeat' (first | with_reducible exact Below.refl _ _ | with_reducible assumption | with_reducible refine Below.drew ?_ | with_reducible refine below_drewN ?_ _ | with_reducible refine Below.setCell ?_ ?_ _ | with_reducible refine Below.alloc ?_ ?_ _ | omega | (simp; done) | (simp; omega)))))
      have hoW : OnlyL [sS + 1] wq wq.drew := OnlyL.drew (OnlyL.refl _ _)
      clear hH0 xI xQ xP xR xB0 xB1 j0 j1
      generalize wq.drew = w2 at RF9 hoW ⊢
      have cR9 := cellH (Lib.hid RF9.out.rs)
      have fzR9 := frozH (Lib.hid RF9.out.rs)
      have lR9 := lt_of_H (Lib.hid RF9.out.rs)
      gi_wp2_with fail
      exact ⟨OnlyL.from (L := [sS + 1]) (OnlyL.setCell hoW (.inl (List.mem_singleton.2 rfl)) _) _ HCL.out, .inl (fun h => HXP.out (prefix_nt h HP.out))⟩
  case done0 =>
    intro D0 xs W hD0 hxs hI hK
    rw [hxs] at hI
    obtain ⟨i1, i2, i3, i4⟩ := hI
    rw [List.length_zipIdx] at i1
    try rw [List.length_zipIdx] at i4
    subst ha
    have hB6 : Below ib w6 W := h67.trans i2
    have RF8 := Lib.hid (HRF.out.below HIB.out hB6)
    have IB8 : Hid (W.heap[ib]? = some (.cells #[.int .i64 N.length] 3 (0, 0))) := i1
    have KD0c := Lib.hid hK
    have hw8 : Below w.heap.size w W := hw6.trans (hB6.mono zw6)
    have zW := hB6.size
    clear i1 i2 i3 hK hxs hB6
    have xI : W.cell? ⟨ib, 0, none⟩ = some (.int .i64 N.length) := cellH IB8 0
    have xB : W.cell? ⟨rb, 0, none⟩ = some (.int .i64 0) := cellH (Lib.hid RF8.out.rb) 0
    have xQ : W.cell? ⟨zB, 0, none⟩ = some (.pointer (some ⟨pb, 0, none⟩)) := cellH (Lib.hid RF8.out.qb) 0
    have xP : W.cell? ⟨pb, 2, none⟩ = some (.pointer (some ⟨r, 0, none⟩)) := RF8.out.pl.bx.cell 2
    have xR : W.cell? ⟨r, 0, none⟩ = some (.slice A5 N.length c5) := cellH (Lib.hid RF8.out.pl.pr.rl.box) 0
    have xT : W.cell? ⟨sS, 0, none⟩ = some (.int .i64 stop) := cellH (Lib.hid RF8.out.st) 0
    have e6 : ((N.length : Int) != (N.length : Int)) = false := bne_self_eq_false _
    gi_wp2_with fail
    refine (wpIn_wide (n := 3)).2 ?_
    refine wp_onlyN ?_
    refine wp_region_held_drew (S := fun w' => w'.cell? ⟨ib, 0, none⟩ = some (.int .i64 N.length) ∧ w'.cell? ⟨rb, 0, none⟩ = some (.int .i64 0) ∧ w'.cell? ⟨zB, 0, none⟩ = some (.pointer (some ⟨pb, 0, none⟩)) ∧ w'.cell? ⟨pb, 2, none⟩ = some (.pointer (some ⟨r, 0, none⟩)) ∧ w'.cell? ⟨r, 0, none⟩ = some (.slice A5 N.length c5) ∧ w'.cell? ⟨sS, 0, none⟩ = some (.int .i64 stop)) (by kernel_rfl) ?_ (fun hH0 => ?_)
    · exact ⟨xI, xB, xQ, xP, xR, xT⟩
    refine tkY (i := 0) (oi := y0) (v := ?_) rfl (by kernel_rfl) (fun _ _ _ h => h) (by rfl) ?_ ‹_› ?_; rotate_left
    · intro wq hSw; simp only [y0]; (try dsimp only at hSw); go_simp; (try with_reducible rfl)
    try simp only [y0, Act.put, s1, s2, s3]
    refine tkY (i := 1) (oi := y1) (v := ?_) rfl (by kernel_rfl) (fun _ _ _ h => h) (by rfl) ?_ ‹_› ?_; rotate_left
    · intro wq hSw; simp only [y1]; (try dsimp only at hSw); go_simp; (try with_reducible rfl)
    try simp only [y1, Act.put, s1, s2, s3]
    refine tkY (i := 2) (oi := y2) (v := ?_) rfl (by kernel_rfl) (fun _ _ _ h => h) (by rfl) ?_ ‹_› ?_; rotate_left
    · intro wq hSw; simp only [y2]; (try dsimp only at hSw); go_simp; (try with_reducible rfl)
    try simp only [y2, Act.put, s1, s2, s3]
    refine tkY (i := 3) (oi := y3) (v := ?_) rfl (by kernel_rfl) (fun _ _ _ h => h) (by rfl) ?_ ‹_› ?_; rotate_left
    · intro wq hSw; simp only [y3]; (try dsimp only at hSw); go_simp; (try with_reducible rfl)
    try simp only [y3, Act.put, s1, s2, s3]
    refine tkY (i := 4) (oi := y4) (v := ?_) rfl (by kernel_rfl) (fun _ _ _ h => h) (by rfl) ?_ ‹_› ?_; rotate_left
    · intro wq hSw; simp only [y4]; (try dsimp only at hSw); go_simp; (try with_reducible rfl)
    try simp only [y4, Act.put, s1, s2, s3]
    refine tkY (i := 5) (oi := y5) (v := ?_) rfl (by kernel_rfl) (fun _ _ _ h => h) (by rfl) ?_ ‹_› ?_; rotate_left
    · intro wq hSw; simp only [y5]; (try dsimp only at hSw); go_simp; (try with_reducible rfl)
    try simp only [y5, Act.put, s1, s2, s3]
    refine tkY (i := 6) (oi := y6) (v := ?_) rfl (by kernel_rfl) (fun _ _ _ h => h) (by rfl) ?_ ‹_› ?_; rotate_left
    · intro wq hSw; simp only [y6]; (try dsimp only at hSw); go_simp; (try with_reducible rfl)
    try simp only [y6, Act.put, s1, s2, s3]
    refine tkY (i := 7) (oi := y7) (v := ?_) rfl (by kernel_rfl) (fun _ _ _ h => h) (by rfl) ?_ ‹_› ?_; rotate_left
    · intro wq hSw; simp only [y7]; (try dsimp only at hSw); go_simp; (try with_reducible rfl)
    try simp only [y7, Act.put, s1, s2, s3]
    refine tkY (i := 8) (oi := y8) (v := ?_) rfl (by kernel_rfl) (fun _ _ _ h => h) (by rfl) ?_ ‹_› ?_; rotate_left
    · intro wq hSw; simp only [y8]; (try dsimp only at hSw); go_simp; (try with_reducible rfl)
    try simp only [y8, Act.put, s1, s2, s3]
    refine tkY (i := 9) (oi := y9) (v := ?_) rfl (by kernel_rfl) (fun _ _ _ h => h) (by rfl) ?_ ‹_› ?_; rotate_left
    · intro wq hSw; simp only [y9]; (try dsimp only at hSw); go_simp; (try with_reducible rfl)
    try simp only [y9, Act.put, s1, s2, s3]
    refine tkY (i := 10) (oi := y10) (v := ?_) rfl (by kernel_rfl) (fun _ _ _ h => h) (by rfl) ?_ ‹_› ?_; rotate_left
    · intro wq hSw; simp only [y10]; (try dsimp only at hSw); go_simp; (try with_reducible rfl)
    try simp only [y10, Act.put, s1, s2, s3]
    refine tkY (i := 11) (oi := y11) (v := ?_) rfl (by kernel_rfl) (fun _ _ _ h => h) (by rfl) ?_ ‹_› ?_; rotate_left
    · intro wq hSw; simp only [y11]; (try dsimp only at hSw); go_simp; (try with_reducible rfl)
    try simp only [y11, Act.put, s1, s2, s3]
    refine tkY (i := 12) (oi := y12) (v := ?_) rfl (by kernel_rfl) (fun _ _ _ h => h) (by rfl) ?_ ‹_› ?_; rotate_left
    · intro wq hSw; simp only [y12]; (try dsimp only at hSw); go_simp; (try with_reducible rfl)
    try simp only [y12, Act.put, s1, s2, s3]
    refine tkY (i := 13) (oi := y13) (v := ?_) rfl (by kernel_rfl) (fun _ _ _ h => h) (by rfl) ?_ ‹_› ?_; rotate_left
    · intro wq hSw; simp only [y13]; (try dsimp only at hSw); go_simp; (try with_reducible rfl)
    try simp only [y13, Act.put, s1, s2, s3]
    refine tkY (i := 14) (oi := y14) (v := ?_) rfl (by kernel_rfl) (fun _ _ _ h => h) (by rfl) ?_ ‹_› ?_; rotate_left
    · intro wq hSw; simp only [y14]; (try dsimp only at hSw); go_simp; (try with_reducible rfl)
    try simp only [y14, Act.put, s1, s2, s3]
    refine tkY (i := 15) (oi := y15) (v := ?_) rfl (by kernel_rfl) (fun _ _ _ h => h) (by rfl) ?_ ‹_› ?_; rotate_left
    · intro wq hSw; simp only [y15]; (try dsimp only at hSw); go_simp; (try with_reducible rfl)
    try simp only [y15, Act.put, s1, s2, s3]
    refine tkY (i := 16) (oi := y16) (v := ?_) rfl (by kernel_rfl) (fun _ _ _ h => h) (by rfl) ?_ ‹_› ?_; rotate_left
    · intro wq hSw; simp only [y16]; (try dsimp only at hSw); go_simp; (try with_reducible rfl)
    try simp only [y16, Act.put, s1, s2, s3]
    refine tkY (i := 17) (oi := y17) (v := ?_) rfl (by kernel_rfl) (fun _ _ _ h => h) (by rfl) ?_ ‹_› ?_; rotate_left
    · intro wq hSw; simp only [y17]; (try dsimp only at hSw); go_simp; (try with_reducible rfl)
    try simp only [y17, Act.put, s1, s2, s3]
    refine tkN (i := 18) (oi := y18) rfl (by kernel_rfl) (fun _ _ _ h => h) (by rfl) ‹_› ?_
    try simp only [y18, Act.put, s1, s2, s3]
    refine tkN (i := 19) (oi := y19) rfl (by kernel_rfl) (fun _ _ _ h => h) (by rfl) ‹_› ?_
    try simp only [y19, Act.put, s1, s2, s3]
    refine tkY (i := 20) (oi := y20) (v := ?_) rfl (by kernel_rfl) (fun _ _ _ h => h) (by rfl) ?_ ‹_› ?_; rotate_left
    · intro wq hSw; simp only [y20]; (try dsimp only at hSw); go_simp; (try with_reducible rfl)
    try simp only [y20, Act.put, s1, s2, s3]
    refine tkY (i := 21) (oi := y21) (v := ?_) rfl (by kernel_rfl) (fun _ _ _ h => h) (by rfl) ?_ ‹_› ?_; rotate_left
    · intro wq hSw; simp only [y21]; (try dsimp only at hSw); go_simp; (try with_reducible rfl)
    try simp only [y21, Act.put, s1, s2, s3]
    refine tkN (i := 22) (oi := y22) rfl (by kernel_rfl) (fun _ _ _ h => h) (by rfl) ‹_› ?_
    try simp only [y22, Act.put, s1, s2, s3]
    refine tkN (i := 23) (oi := y23) rfl (by kernel_rfl) (fun _ _ _ h => h) (by rfl) ‹_› ?_
    try simp only [y23, Act.put, s1, s2, s3]
    refine tkN (i := 24) (oi := y24) rfl (by kernel_rfl) (fun _ _ _ h => h) (by rfl) ‹_› ?_
    try simp only [y24, Act.put, s1, s2, s3]
    refine tkN (i := 25) (oi := y25) rfl (by kernel_rfl) (fun _ _ _ h => h) (by rfl) ‹_› ?_
    try simp only [y25, Act.put, s1, s2, s3]
    refine tkN (i := 26) (oi := y26) rfl (by kernel_rfl) (fun _ _ _ h => h) (by rfl) ‹_› ?_
    try simp only [y26, Act.put, s1, s2, s3]
    refine tkN (i := 27) (oi := y27) rfl (by kernel_rfl) (fun _ _ _ h => h) (by rfl) ‹_› ?_
    try simp only [y27, Act.put, s1, s2, s3]
    refine tkN (i := 28) (oi := y28) rfl (by kernel_rfl) (fun _ _ _ h => h) (by rfl) ‹_› ?_
    try simp only [y28, Act.put, s1, s2, s3]
    refine tkN (i := 29) (oi := y29) rfl (by kernel_rfl) (fun _ _ _ h => h) (by rfl) ‹_› ?_
    try simp only [y29, Act.put, s1, s2, s3]
    refine tkN (i := 30) (oi := y30) rfl (by kernel_rfl) (fun _ _ _ h => h) (by rfl) ‹_› ?_
    try simp only [y30, Act.put, s1, s2, s3]
    refine tkN (i := 31) (oi := y31) rfl (by kernel_rfl) (fun _ _ _ h => h) (by rfl) ‹_› ?_
    try simp only [y31, Act.put, s1, s2, s3]
    refine tkN (i := 32) (oi := y32) rfl (by kernel_rfl) (fun _ _ _ h => h) (by rfl) ‹_› ?_
    try simp only [y32, Act.put, s1, s2, s3]
    refine tkN (i := 33) (oi := y33) rfl (by kernel_rfl) (fun _ _ _ h => h) (by rfl) ‹_› ?_
    try simp only [y33, Act.put, s1, s2, s3]
    refine tkY (i := 34) (oi := y34) (v := ?_) rfl (by kernel_rfl) (fun _ _ _ h => h) (by rfl) ?_ ‹_› ?_; rotate_left
    · intro wq hSw; simp only [y34]; (try dsimp only at hSw); go_simp; (try with_reducible rfl)
    try simp only [y34, Act.put, s1, s2, s3]
    refine tkY (i := 35) (oi := y35) (v := ?_) rfl (by kernel_rfl) (fun _ _ _ h => h) (by rfl) ?_ ‹_› ?_; rotate_left
    · intro wq hSw; simp only [y35]; (try dsimp only at hSw); go_simp; (try with_reducible rfl)
    try simp only [y35, Act.put, s1, s2, s3]
    refine wpAnyH_done (by kernel_rfl) ?_ _
    refine onlyN_normal ?_
    clear hH0 xI xB xQ xP xR xT e6 i4
    have hdn : Below W.heap.size W W.drew := by (repeat' (first | with_reducible exact Below.refl _ _ | with_reducible assumption | with_reducible refine Below.drew ?_ | with_reducible refine below_drewN ?_ _ | with_reducible refine Below.setCell ?_ ?_ _ | with_reducible refine Below.alloc ?_ ?_ _ | omega | (simp; done) | (simp; omega)))

    have RFn := Lib.hid (RF8.out.below rfl hdn)
    have hwn : Below w.heap.size w W.drew := hw8.trans (hdn.mono hw8.size)
    have znW := hdn.size
    have KD0n : Hid (W.drew.heap[D0]? = _) := (hdn.block _ (Array.getElem?_eq_some_iff.1 KD0c.out).1).trans KD0c.out
    clear RF8 IB8 hw8 hdn KD0c
    generalize W.drew = Wn at RFn hwn znW KD0n ⊢
    have cRB := cellH (Lib.hid RFn.out.rb)
    have cQB := cellH (Lib.hid RFn.out.qb)
    have cPB := cellH (Lib.hid RFn.out.pl.bx.2)
    gi_wp2_with fail
    have zn9 := hwn.size
    have zn8 := (Array.getElem?_eq_some_iff.1 RFn.out.qb).1
    have HRF1 : Hid (RF b E m L P U r pb rv _ _ N um sS zB Bx Wn.heap.size stop 1 (Wn.alloc (.cells #[.int .i64 1] 3))) := RFn.out.round (by (repeat' (first | with_reducible exact Below.refl _ _ | with_reducible assumption | with_reducible refine Below.drew ?_ | with_reducible refine below_drewN ?_ _ | with_reducible refine Below.setCell ?_ ?_ _ | with_reducible refine Below.alloc ?_ ?_ _ | omega | (simp; done) | (simp; omega)))) (blk_new rfl)
    have hw61 : Below w.heap.size w (Wn.alloc (.cells #[.int .i64 1] 3)) := by (repeat' (first | with_reducible exact Below.refl _ _ | with_reducible assumption | with_reducible refine Below.drew ?_ | with_reducible refine below_drewN ?_ _ | with_reducible refine Below.setCell ?_ ?_ _ | with_reducible refine Below.alloc ?_ ?_ _ | omega | (simp; done) | (simp; omega)))
    have hu61 : Wn.heap.size < (Wn.alloc (.cells #[.int .i64 1] 3)).heap.size := by simp
    have hqb1 : zB < (Wn.alloc (.cells #[.int .i64 1] 3)).heap.size := by omega
    have KD0 := Lib.hid (blk_old (o := (.cells #[.int .i64 1] 3)) KD0n.out)
    have hrbz0 : zB ≤ Wn.heap.size := Nat.le_of_lt zn8
    obtain ⟨rb1, hrb⟩ : ∃ x, Wn.heap.size = x := ⟨_, rfl⟩
    clear RFn hwn cRB
    generalize (Wn.alloc (.cells #[.int .i64 1] 3)) = w61 at HRF1 hw61 hu61 hqb1 KD0 ⊢
    rw [hrb] at HRF1 hu61 hrbz0 ⊢
    clear hrb
    have cRB := cellH (Lib.hid HRF1.out.rb)
    rw [roundsIn_succ]

    obtain ⟨vr, hvr⟩ : ∃ x, Value.slice A5 N.length c5 = x := ⟨_, rfl⟩
    rw [hvr] at HRF1 HFK
    clear hvr
    gi_wp2_with fail
    obtain ⟨A5, c5, hv5, hc5, hm5, _⟩ := Own.rows (fun x _ => encN_len x) HRF1.out.pl.pr.rl.own
    subst hv5
    have IB7 : Hid ((w61.alloc (.cells #[.int .i64 0] 3)).heap[w61.heap.size]? = some (.cells #[.int .i64 0] 3 (0, 0))) := blk_new rfl
    have h67 : Below w61.heap.size w61 (w61.alloc (.cells #[.int .i64 0] 3)) := by (repeat' (first | with_reducible exact Below.refl _ _ | with_reducible assumption | with_reducible refine Below.drew ?_ | with_reducible refine below_drewN ?_ _ | with_reducible refine Below.setCell ?_ ?_ _ | with_reducible refine Below.alloc ?_ ?_ _ | omega | (simp; done) | (simp; omega)))
    have hu7 : w61.heap.size < (w61.alloc (.cells #[.int .i64 0] 3)).heap.size := by simp
    have BX7 : Hid ((w61.alloc (.cells #[.int .i64 0] 3)).heap[Bx]? = some (.cells #[.pointer (some ⟨L, 0, none⟩)] 24 (0, 0))) := blk_old HRF1.out.bx
    have lBx : Bx < w61.heap.size := (Array.getElem?_eq_some_iff.1 HRF1.out.bx).1
    have LD7 := Lib.hid (HRF1.out.pl.pr.st.led.below h67)
    have zw6 := hw61.size
    have lD0 := (Array.getElem?_eq_some_iff.1 KD0.out).1
    obtain ⟨ib, hib⟩ : ∃ ib, w61.heap.size = ib := ⟨_, rfl⟩
    have HIB := Lib.hid hib
    generalize (w61.alloc (.cells #[.int .i64 0] 3)) = w7 at IB7 h67 hu7 BX7 LD7 ⊢
    rw [hib] at IB7 h67 hu7 lBx hu61 hqb1 zw6 lD0 ⊢
    clear hib cRB
    generalize ha : Act.mk _ _ = a0
    refine wpIn_rangeFunc_ownH rfl (by decide) (gf := 43) (lb := #[.pointer (some ⟨Bx, 0, none⟩)]) (by rw [← ha]; rfl) trivial (enters_of Tryd.func43 (by kernel_rfl) rfl)
      (each1_stops b L P U um v N (3 - 1) Bx ib lBx w7 (Nat.le_of_lt hu7) BX7 LD7.out)
      KeepC.trans (fun W l o o' hl h q1 q2 => keepC_b (m := ib) (h0 := w7.heap.size) (w := w7) (Nat.le_of_lt hu7) W l o o' hl h q1 q2) (Below.refl _ _) (fun x => rfl)
      (EaI N (fun k => stop ≤ 0 ∨ (k : Int) < stop) ib w7) (EaX N ib w7 stop) (EaI_own (Nat.le_of_lt hu7) (Nat.le_refl _)) (fun c => EaX_own c (Nat.le_of_lt hu7) (Nat.le_refl _)) ⟨IB7.out, Below.refl _ _, rfl, (by show stop ≤ 0 ∨ ((0 : Nat) : Int) < stop; omega)⟩
      (fun x a' W => ∃ Bp, w7.heap.size ≤ Bp ∧ W.heap[Bp]? = some (.cells #[.string x.1.1, .int .i64 x.1.2] 39 (0, 0)) ∧ a' = { tmps := (((a0.tmps.setIfInBounds 37 (.int .i64 x.2)).setIfInBounds 38 (.agg #[.string x.1.1, .int .i64 x.1.2])).setIfInBounds 11 (.int .i64 x.2)).setIfInBounds 12 (.pointer (some ⟨Bp, 0, none⟩)), defers := [] })
      (fun x a' s W W' row hs hg hr => by obtain ⟨Bp, h2, h3, h4⟩ := hs; exact ⟨Bp, h2, ownBlk h3 hg hr, h4⟩) ?assign1 ?body1 ?done1 ?stop1
    case assign1 =>
      intro l9 pre x W K hI hK
      obtain ⟨i1, i2, i3, i4⟩ := hI
      have zz := i2.size
      subst ha
      simp only [encE]
      gi_wp2_with fail
      have h9 := hK _ _ ((KeepsOthers.alloc W (.cells #[.string x.1.1, .int .i64 x.1.2] 39)).from _) (KeepC.ofBelow ((Below.refl _ _).alloc (Nat.le_refl _) _) (by omega)) ⟨blk_old i1, i2.alloc (by omega) _, i3, i4⟩ ⟨_, zz, blk_new rfl, rfl⟩
      simp only [List.setIfInBounds_toArray, List.set_cons_zero, List.set_cons_succ] at h9
      exact h9
    case body1 =>
      as_aux_lemma =>
      rintro l9 pre ⟨⟨xs, xv⟩, xi⟩ a' wq hl9 ⟨rr, hrr⟩ ⟨i1, i2, i3, i4⟩ ⟨Bp, p2, p3, rfl⟩ hlt
      have zq9 := i2.size
      rw [List.length_zipIdx] at hlt
      subst ha
      try simp only [List.setIfInBounds_toArray, List.set_cons_zero, List.set_cons_succ]
      have hB6 : Below ib w61 wq := h67.trans i2
      have RF8 := Lib.hid (HRF1.out.below HIB.out hB6)
      have IB8 : Hid (wq.heap[ib]? = some (.cells #[.int .i64 pre.length] 3 (0, 0))) := i1
      have P8 : Hid (wq.heap[Bp]? = some (.cells #[.string xs, .int .i64 xv] 39 (0, 0))) := p3
      obtain ⟨⟨ps, pv⟩, hp⟩ : ∃ p, N[pre.length]? = some p := ⟨N[pre.length], List.getElem?_eq_getElem hlt⟩
      have HP : Hid (N.zipIdx[pre.length]? = some ((ps, pv), pre.length)) := by show _ = _; rw [List.getElem?_zipIdx, hp]; simp
      obtain ⟨g, off, hA5, hg, hcc⟩ := RF8.out.pl.pr.rl.row pre.length (ps, pv) hp
      subst hA5
      have HI2 := Lib.hid i2
      have HI3 := Lib.hid i3
      have HI4 := Lib.hid i4
      have xI : wq.cell? ⟨ib, 0, none⟩ = some (.int .i64 pre.length) := cellH IB8 0
      have xQ : wq.cell? ⟨zB, 0, none⟩ = some (.pointer (some ⟨pb, 0, none⟩)) := cellH (Lib.hid RF8.out.qb) 0
      have xP : wq.cell? ⟨pb, 2, none⟩ = some (.pointer (some ⟨r, 0, none⟩)) := RF8.out.pl.bx.cell 2
      have xR : wq.cell? ⟨r, 0, none⟩ = some (.slice (some ⟨g, off, none⟩) N.length c5) := cellH (Lib.hid RF8.out.pl.pr.rl.box) 0
      have xB0 : wq.cell? ⟨Bp, 0, none⟩ = some (.string xs) := cellH P8 0
      have xB1 : wq.cell? ⟨Bp, 1, none⟩ = some (.int .i64 xv) := cellH P8 1
      have j0 : wq.cell? ⟨g, off + pre.length * 2, none⟩ = some (.string ps) := hcc 0 _ rfl
      have j1 : wq.cell? ⟨g, off + pre.length * 2 + 1, none⟩ = some (.int .i64 pv) := hcc 1 _ rfl
      have hlt2 : (pre.length : Int) < (N.length : Int) := by omega
      have k2 : (0 : Int) ≤ (pre.length : Int) := by omega
      have k6 : ((pre.length : Int)).toNat = pre.length := by omega
      have hge : decide (N.length ≤ pre.length) = false := decide_eq_false (by omega)
      have hrbl := (Array.getElem?_eq_some_iff.1 HRF1.out.rb).1
      rw [HIB.out] at hrbl
      clear hp i1 i2 i3 i4 p3 hcc hB6
      gi_upto_region 15 with fail
      have HCL : Hid (∀ k ∈ [sS + 1], ∃ cs t z, wq.heap[k]? = some (.cells cs t z)) := by
        intro k hk
        rw [List.mem_singleton.1 hk]
        exact ⟨_, _, _, RF8.out.rs⟩
      have HCI : Hid (∀ k ∈ [ib], ∃ cs t z, wq.heap[k]? = some (.cells cs t z)) := by
        intro k hk
        rw [List.mem_singleton.1 hk]
        exact ⟨_, _, _, IB8.out⟩
      by_cases hxi : xi = pre.length
      · subst hxi
        have e0 : ((pre.length : Int) != (pre.length : Int)) = false := bne_self_eq_false _
        by_cases hxs : xs = ps
        · have e1 : (xs.toList != ps.toList) = false := by rw [hxs]; exact bne_self_eq_false _
          have e1b : (xs.toList == ps.toList) = true := by rw [hxs]; exact beq_self_eq_true _
          have HXS := Lib.hid hxs
          clear hxs
          obtain ⟨bv, hb9⟩ : ∃ b, (xv != pv) = b := ⟨_, rfl⟩
          have hbv := Lib.hid hb9
          refine round_held_drew (S := fun w' => w'.cell? ⟨ib, 0, none⟩ = some (.int .i64 pre.length) ∧ w'.cell? ⟨zB, 0, none⟩ = some (.pointer (some ⟨pb, 0, none⟩)) ∧ w'.cell? ⟨pb, 2, none⟩ = some (.pointer (some ⟨r, 0, none⟩)) ∧ w'.cell? ⟨r, 0, none⟩ = some (.slice (some ⟨g, off, none⟩) N.length c5) ∧ w'.cell? ⟨Bp, 0, none⟩ = some (.string xs) ∧ w'.cell? ⟨Bp, 1, none⟩ = some (.int .i64 xv) ∧ w'.cell? ⟨g, off + pre.length * 2, none⟩ = some (.string ps) ∧ w'.cell? ⟨g, off + pre.length * 2 + 1, none⟩ = some (.int .i64 pv)) (by kernel_rfl) (by kernel_rfl) ?_ (fun hH0 => ?_)
          · exact ⟨xI, xQ, xP, xR, xB0, xB1, j0, j1⟩
          refine tkY (i := 0) (oi := q0) (v := ?_) rfl (by kernel_rfl) (fun _ _ _ h => h) (by rfl) ?_ ‹_› ?_; rotate_left
          · intro wq hSw; simp only [q0]; (try dsimp only at hSw); go_simp; (try with_reducible rfl)
          try simp only [q0, Act.put, s1, s2, s3]
          refine tkY (i := 1) (oi := q1) (v := ?_) rfl (by kernel_rfl) (fun _ _ _ h => h) (by rfl) ?_ ‹_› ?_; rotate_left
          · intro wq hSw; simp only [q1]; (try dsimp only at hSw); go_simp; (try with_reducible rfl)
          try simp only [q1, Act.put, s1, s2, s3]
          refine tkY (i := 2) (oi := q2) (v := ?_) rfl (by kernel_rfl) (fun _ _ _ h => h) (by rfl) ?_ ‹_› ?_; rotate_left
          · intro wq hSw; simp only [q2]; (try dsimp only at hSw); go_simp; (try with_reducible rfl)
          try simp only [q2, Act.put, s1, s2, s3]
          refine tkY (i := 3) (oi := q3) (v := ?_) rfl (by kernel_rfl) (fun _ _ _ h => h) (by rfl) ?_ ‹_› ?_; rotate_left
          · intro wq hSw; simp only [q3]; (try dsimp only at hSw); go_simp; (try with_reducible rfl)
          try simp only [q3, Act.put, s1, s2, s3]
          refine tkY (i := 4) (oi := q4) (v := ?_) rfl (by kernel_rfl) (fun _ _ _ h => h) (by rfl) ?_ ‹_› ?_; rotate_left
          · intro wq hSw; simp only [q4]; (try dsimp only at hSw); go_simp; (try with_reducible rfl)
          try simp only [q4, Act.put, s1, s2, s3]
          refine tkY (i := 5) (oi := q5) (v := ?_) rfl (by kernel_rfl) (fun _ _ _ h => h) (by rfl) ?_ ‹_› ?_; rotate_left
          · intro wq hSw; simp only [q5]; (try dsimp only at hSw); go_simp; (try with_reducible rfl)
          try simp only [q5, Act.put, s1, s2, s3]
          refine tkY (i := 6) (oi := q6) (v := ?_) rfl (by kernel_rfl) (fun _ _ _ h => h) (by rfl) ?_ ‹_› ?_; rotate_left
          · intro wq hSw; simp only [q6]; (try dsimp only at hSw); go_simp; (try with_reducible rfl)
          try simp only [q6, Act.put, s1, s2, s3]
          refine tkY (i := 7) (oi := q7) (v := ?_) rfl (by kernel_rfl) (fun _ _ _ h => h) (by rfl) ?_ ‹_› ?_; rotate_left
          · intro wq hSw; simp only [q7]; (try dsimp only at hSw); go_simp; (try with_reducible rfl)
          try simp only [q7, Act.put, s1, s2, s3]
          refine tkY (i := 8) (oi := q8) (v := ?_) rfl (by kernel_rfl) (fun _ _ _ h => h) (by rfl) ?_ ‹_› ?_; rotate_left
          · intro wq hSw; simp only [q8]; (try dsimp only at hSw); go_simp; (try with_reducible rfl)
          try simp only [q8, Act.put, s1, s2, s3]
          refine tkY (i := 9) (oi := q9) (v := ?_) rfl (by kernel_rfl) (fun _ _ _ h => h) (by rfl) ?_ ‹_› ?_; rotate_left
          · intro wq hSw; simp only [q9]; (try dsimp only at hSw); go_simp; (try with_reducible rfl)
          try simp only [q9, Act.put, s1, s2, s3]
          refine tkY (i := 10) (oi := q10) (v := ?_) rfl (by kernel_rfl) (fun _ _ _ h => h) (by rfl) ?_ ‹_› ?_; rotate_left
          · intro wq hSw; simp only [q10]; (try dsimp only at hSw); go_simp; (try with_reducible rfl)
          try simp only [q10, Act.put, s1, s2, s3]
          refine tkY (i := 11) (oi := q11) (v := ?_) rfl (by kernel_rfl) (fun _ _ _ h => h) (by rfl) ?_ ‹_› ?_; rotate_left
          · intro wq hSw; simp only [q11]; (try dsimp only at hSw); go_simp; (try with_reducible rfl)
          try simp only [q11, Act.put, s1, s2, s3]
          refine tkY (i := 12) (oi := q12) (v := ?_) rfl (by kernel_rfl) (fun _ _ _ h => h) (by rfl) ?_ ‹_› ?_; rotate_left
          · intro wq hSw; simp only [q12]; (try dsimp only at hSw); go_simp; (try with_reducible rfl)
          try simp only [q12, Act.put, s1, s2, s3]
          refine tkY (i := 13) (oi := q13) (v := ?_) rfl (by kernel_rfl) (fun _ _ _ h => h) (by rfl) ?_ ‹_› ?_; rotate_left
          · intro wq hSw; simp only [q13]; (try dsimp only at hSw); go_simp; (try with_reducible rfl)
          try simp only [q13, Act.put, s1, s2, s3]
          refine tkY (i := 14) (oi := q14) (v := ?_) rfl (by kernel_rfl) (fun _ _ _ h => h) (by rfl) ?_ ‹_› ?_; rotate_left
          · intro wq hSw; simp only [q14]; (try dsimp only at hSw); go_simp; (try with_reducible rfl)
          try simp only [q14, Act.put, s1, s2, s3]
          refine tkY (i := 15) (oi := q15) (v := ?_) rfl (by kernel_rfl) (fun _ _ _ h => h) (by rfl) ?_ ‹_› ?_; rotate_left
          · intro wq hSw; simp only [q15]; (try dsimp only at hSw); go_simp; (try with_reducible rfl)
          try simp only [q15, Act.put, s1, s2, s3]
          refine tkY (i := 16) (oi := q16) (v := ?_) rfl (by kernel_rfl) (fun _ _ _ h => h) (by rfl) ?_ ‹_› ?_; rotate_left
          · intro wq hSw; simp only [q16]; (try dsimp only at hSw); go_simp; (try with_reducible rfl)
          try simp only [q16, Act.put, s1, s2, s3]
          refine tkY (i := 17) (oi := q17) (v := ?_) rfl (by kernel_rfl) (fun _ _ _ h => h) (by rfl) ?_ ‹_› ?_; rotate_left
          · intro wq hSw; simp only [q17]; (try dsimp only at hSw); go_simp; (try with_reducible rfl)
          try simp only [q17, Act.put, s1, s2, s3]
          refine tkY (i := 18) (oi := q18) (v := ?_) rfl (by kernel_rfl) (fun _ _ _ h => h) (by rfl) ?_ ‹_› ?_; rotate_left
          · intro wq hSw; simp only [q18]; (try dsimp only at hSw); go_simp; (try with_reducible rfl)
          try simp only [q18, Act.put, s1, s2, s3]
          refine tkY (i := 19) (oi := q19) (v := ?_) rfl (by kernel_rfl) (fun _ _ _ h => h) (by rfl) ?_ ‹_› ?_; rotate_left
          · intro wq hSw; simp only [q19]; (try dsimp only at hSw); go_simp; (try with_reducible rfl)
          try simp only [q19, Act.put, s1, s2, s3]
          refine tkY (i := 20) (oi := q20) (v := ?_) rfl (by kernel_rfl) (fun _ _ _ h => h) (by rfl) ?_ ‹_› ?_; rotate_left
          · intro wq hSw; simp only [q20]; (try dsimp only at hSw); go_simp; (try with_reducible rfl)
          try simp only [q20, Act.put, s1, s2, s3]
          refine tkY (i := 21) (oi := q21) (v := ?_) rfl (by kernel_rfl) (fun _ _ _ h => h) (by rfl) ?_ ‹_› ?_; rotate_left
          · intro wq hSw; simp only [q21]; (try dsimp only at hSw); go_simp; (try with_reducible rfl)
          try simp only [q21, Act.put, s1, s2, s3]
          refine tkY (i := 22) (oi := q22) (v := ?_) rfl (by kernel_rfl) (fun _ _ _ h => h) (by rfl) ?_ ‹_› ?_; rotate_left
          · intro wq hSw; simp only [q22]; (try dsimp only at hSw); go_simp; (try with_reducible rfl)
          try simp only [q22, Act.put, s1, s2, s3]
          refine tkY (i := 23) (oi := q23) (v := ?_) rfl (by kernel_rfl) (fun _ _ _ h => h) (by rfl) ?_ ‹_› ?_; rotate_left
          · intro wq hSw; simp only [q23]; (try dsimp only at hSw); go_simp; (try with_reducible rfl)
          try simp only [q23, Act.put, s1, s2, s3]
          refine tkY (i := 24) (oi := q24) (v := ?_) rfl (by kernel_rfl) (fun _ _ _ h => h) (by rfl) ?_ ‹_› ?_; rotate_left
          · intro wq hSw; simp only [q24]; (try dsimp only at hSw); go_simp; (try with_reducible rfl)
          try simp only [q24, Act.put, s1, s2, s3]
          refine tkY (i := 25) (oi := q25) (v := ?_) rfl (by kernel_rfl) (fun _ _ _ h => h) (by rfl) ?_ ‹_› ?_; rotate_left
          · intro wq hSw; simp only [q25]; (try dsimp only at hSw); go_simp; (try with_reducible rfl)
          try simp only [q25, Act.put, s1, s2, s3]
          refine tkY (i := 26) (oi := q26) (v := ?_) rfl (by kernel_rfl) (fun _ _ _ h => h) (by rfl) ?_ ‹_› ?_; rotate_left
          · intro wq hSw; simp only [q26]; (try dsimp only at hSw); go_simp; (try with_reducible rfl)
          try simp only [q26, Act.put, s1, s2, s3]
          refine tkY (i := 27) (oi := q27) (v := ?_) rfl (by kernel_rfl) (fun _ _ _ h => h) (by rfl) ?_ ‹_› ?_; rotate_left
          · intro wq hSw; simp only [q27]; (try dsimp only at hSw); go_simp; (try with_reducible rfl)
          try simp only [q27, Act.put, s1, s2, s3]
          refine tkY (i := 28) (oi := q28) (v := ?_) rfl (by kernel_rfl) (fun _ _ _ h => h) (by rfl) ?_ ‹_› ?_; rotate_left
          · intro wq hSw; simp only [q28]; (try dsimp only at hSw); go_simp; (try with_reducible rfl)
          try simp only [q28, Act.put, s1, s2, s3]
          refine tkY (i := 29) (oi := q29) (v := ?_) rfl (by kernel_rfl) (fun _ _ _ h => h) (by rfl) ?_ ‹_› ?_; rotate_left
          · intro wq hSw; simp only [q29]; (try dsimp only at hSw); go_simp; (try with_reducible rfl)
          try simp only [q29, Act.put, s1, s2, s3]
          refine tkY (i := 30) (oi := q30) (v := ?_) rfl (by kernel_rfl) (fun _ _ _ h => h) (by rfl) ?_ ‹_› ?_; rotate_left
          · intro wq hSw; simp only [q30]; (try dsimp only at hSw); go_simp; (try with_reducible rfl)
          try simp only [q30, Act.put, s1, s2, s3]
          refine tkY (i := 31) (oi := q31) (v := ?_) rfl (by kernel_rfl) (fun _ _ _ h => h) (by rfl) ?_ ‹_› ?_; rotate_left
          · intro wq hSw; simp only [q31]; (try dsimp only at hSw); go_simp; (try with_reducible rfl)
          try simp only [q31, Act.put, s1, s2, s3]
          refine tkY (i := 32) (oi := q32) (v := ?_) rfl (by kernel_rfl) (fun _ _ _ h => h) (by rfl) ?_ ‹_› ?_; rotate_left
          · intro wq hSw; simp only [q32]; (try dsimp only at hSw); go_simp; (try with_reducible rfl)
          try simp only [q32, Act.put, s1, s2, s3]
          refine tkY (i := 33) (oi := q33) (v := ?_) rfl (by kernel_rfl) (fun _ _ _ h => h) (by rfl) ?_ ‹_› ?_; rotate_left
          · intro wq hSw; simp only [q33]; (try dsimp only at hSw); go_simp; (try with_reducible rfl)
          try simp only [q33, Act.put, s1, s2, s3]
          refine tkY (i := 34) (oi := q34) (v := ?_) rfl (by kernel_rfl) (fun _ _ _ h => h) (by rfl) ?_ ‹_› ?_; rotate_left
          · intro wq hSw; simp only [q34]; (try dsimp only at hSw); go_simp; (try with_reducible rfl)
          try simp only [q34, Act.put, s1, s2, s3]
          refine tkY (i := 35) (oi := q35) (v := ?_) rfl (by kernel_rfl) (fun _ _ _ h => h) (by rfl) ?_ ‹_› ?_; rotate_left
          · intro wq hSw; simp only [q35]; (try dsimp only at hSw); go_simp; (try with_reducible rfl)
          try simp only [q35, Act.put, s1, s2, s3]
          refine tkY (i := 36) (oi := q36) (v := ?_) rfl (by kernel_rfl) (fun _ _ _ h => h) (by rfl) ?_ ‹_› ?_; rotate_left
          · intro wq hSw; simp only [q36]; (try dsimp only at hSw); go_simp; (try with_reducible rfl)
          try simp only [q36, Act.put, s1, s2, s3]
          refine tkY (i := 37) (oi := q37) (v := ?_) rfl (by kernel_rfl) (fun _ _ _ h => h) (by rfl) ?_ ‹_› ?_; rotate_left
          · intro wq hSw; simp only [q37]; (try dsimp only at hSw); go_simp; (try with_reducible rfl)
          try simp only [q37, Act.put, s1, s2, s3]
          refine tkY (i := 38) (oi := q38) (v := ?_) rfl (by kernel_rfl) (fun _ _ _ h => h) (by rfl) ?_ ‹_› ?_; rotate_left
          · intro wq hSw; simp only [q38]; (try dsimp only at hSw); go_simp; (try with_reducible rfl)
          try simp only [q38, Act.put, s1, s2, s3]
          refine tkY (i := 39) (oi := q39) (v := ?_) rfl (by kernel_rfl) (fun _ _ _ h => h) (by rfl) ?_ ‹_› ?_; rotate_left
          · intro wq hSw; simp only [q39]; (try dsimp only at hSw); go_simp; (try with_reducible rfl)
          try simp only [q39, Act.put, s1, s2, s3]
          refine tkY (i := 40) (oi := q40) (v := ?_) rfl (by kernel_rfl) (fun _ _ _ h => h) (by rfl) ?_ ‹_› ?_; rotate_left
          · intro wq hSw; simp only [q40]; (try dsimp only at hSw); go_simp; (try with_reducible rfl)
          try simp only [q40, Act.put, s1, s2, s3]
          refine tkY (i := 41) (oi := q41) (v := ?_) rfl (by kernel_rfl) (fun _ _ _ h => h) (by rfl) ?_ ‹_› ?_; rotate_left
          · intro wq hSw; simp only [q41]; (try dsimp only at hSw); go_simp; (try with_reducible rfl)
          try simp only [q41, Act.put, s1, s2, s3]
          refine tkY (i := 42) (oi := q42) (v := ?_) rfl (by kernel_rfl) (fun _ _ _ h => h) (by rfl) ?_ ‹_› ?_; rotate_left
          · intro wq hSw; simp only [q42]; (try dsimp only at hSw); go_simp; (try with_reducible rfl)
          try simp only [q42, Act.put, s1, s2, s3]
          refine tkY (i := 43) (oi := q43) (v := ?_) rfl (by kernel_rfl) (fun _ _ _ h => h) (by rfl) ?_ ‹_› ?_; rotate_left
          · intro wq hSw; simp only [q43]; (try dsimp only at hSw); go_simp; (try with_reducible rfl)
          try simp only [q43, Act.put, s1, s2, s3]
          refine tkY (i := 44) (oi := q44) (v := ?_) rfl (by kernel_rfl) (fun _ _ _ h => h) (by rfl) ?_ ‹_› ?_; rotate_left
          · intro wq hSw; simp only [q44]; (try dsimp only at hSw); go_simp; (try with_reducible rfl)
          try simp only [q44, Act.put, s1, s2, s3]
          refine tkY (i := 45) (oi := q45) (v := ?_) rfl (by kernel_rfl) (fun _ _ _ h => h) (by rfl) ?_ ‹_› ?_; rotate_left
          · intro wq hSw; simp only [q45]; (try dsimp only at hSw); go_simp; (try with_reducible rfl)
          try simp only [q45, Act.put, s1, s2, s3]
          refine tkY (i := 46) (oi := q46) (v := ?_) rfl (by kernel_rfl) (fun _ _ _ h => h) (by rfl) ?_ ‹_› ?_; rotate_left
          · intro wq hSw; simp only [q46]; (try dsimp only at hSw); go_simp; (try with_reducible rfl)
          try simp only [q46, Act.put, s1, s2, s3]
          refine wpAnyH_done (by kernel_rfl) ?_ _
          refine noOut_normal ?_
          cases bv
          · have HXV : Hid (xv = pv) := by (show xv = pv); have h2 := hbv.out; simpa using h2
            try clear hb9
            have IB9 : Hid (wq.drew.heap[ib]? = some (.cells #[.int .i64 pre.length] 3 (0, 0))) := IB8.out
            have RF9 : Hid (RF b E m L P U r pb rv v (.slice (some ⟨g, off, none⟩) N.length c5) N um sS zB Bx rb1 stop 1 wq.drew) := RF8.out.below rfl (by (repeat' (first | with_reducible exact Below.refl _ _ | with_reducible assumption | with_reducible refine Below.drew ?_ | with_reducible refine below_drewN ?_ _ | with_reducible refine Below.setCell ?_ ?_ _ | with_reducible refine Below.alloc ?_ ?_ _ | omega | (simp; done) | (simp; omega))))
            have hoI : OnlyL [ib] wq wq.drew := OnlyL.drew (OnlyL.refl _ _)
            clear hH0 xI xQ xP xR xB0 xB1 j0 j1
            generalize wq.drew = w2 at IB9 RF9 hoI ⊢
            have hoI2 : OnlyL [ib] wq (w2.setCell ⟨ib, 0, none⟩ (.int .i64 ((pre.length : Int) + 1))) := OnlyL.setCell hoI (.inl (List.mem_singleton.2 rfl)) _
            have HEI : Hid (∀ Q : Nat → Prop, Q (pre.length + 1) → EaI N Q ib w7 (pre ++ [((xs, xv), pre.length)]) (w2.setCell ⟨ib, 0, none⟩ (.int .i64 ((pre.length : Int) + 1)))) := by
              intro Q hq
              refine ⟨?_, HI2.out.trans (OnlyL.below hoI2 (by omega) (fun k hk => by rw [List.mem_singleton.1 hk]; exact Nat.le_refl _)), ?_, by rw [List.length_append]; exact hq⟩
              · rw [show ((pre ++ [((xs, xv), pre.length)]).length : Int) = (pre.length : Int) + 1 by simp]
                exact setBox IB9.out _
              · rw [List.length_append, List.length_singleton, take_snoc HP.out, ← HI3.out, HXS.out, HXV.out]
            have HKF := Lib.hid (OnlyL.from hoI2 w7.heap.size HCI.out)
            have HKB : Hid (KeepC ib w7.heap.size wq (w2.setCell ⟨ib, 0, none⟩ (.int .i64 ((pre.length : Int) + 1)))) := KeepC.only hoI2 (by omega) (fun k hk => by rw [List.mem_singleton.1 hk]; omega)
            have cI9 := cellH IB9
            have fI9 := frozH IB9
            have lI9 := lt_of_H IB9
            have cB9 := cellH (Lib.hid RF9.out.rb)
            have cT9 := cellH (Lib.hid RF9.out.st)
            have n1 : ib ≠ rb1 := by omega
            have n2 : ib ≠ sS := by omega
            have kw : IntKind.i64.wrap ((pre.length : Int) + 1) = (pre.length : Int) + 1 := by rw [IntKind.wrap_i64]; omega
            by_cases hst : (pre.length : Int) + 1 = stop
            · have e5 : ((pre.length : Int) + 1 == stop) = true := by simp [hst]
              have HST : Hid (((pre ++ [((xs, xv), pre.length)]).length : Int) = stop) := by show _ = _; rw [← hst]; simp
              have HQ := Lib.hid (HEI.out (fun k => 0 < k) (Nat.succ_pos _))
              clear hst
              gi_wp2_with fail
              exact ⟨HKF.out, .inr ⟨HST.out, rfl, HQ.out⟩⟩
            · have e5 : ((pre.length : Int) + 1 == stop) = false := by simp [hst]
              have HQ := Lib.hid (HEI.out (fun k => stop ≤ 0 ∨ (k : Int) < stop) (by have := HI4.out; omega))
              clear hst
              gi_wp2_with fail
              exact ⟨HKF.out, HKB.out, HQ.out⟩
          · have HXP : Hid (¬ ((xs, xv), pre.length) = ((ps, pv), pre.length)) := fun h => by (have h2 := hbv.out; rw [bne_iff_ne] at h2; exact h2 (by injection h with h _; injection h))
            try clear hb9
            have RF9 := Lib.hid (RF8.out.below rfl (show Below wq.heap.size wq wq.drew by (repeat' (first | with_reducible exact Below.refl _ _ | with_reducible assumption | with_reducible refine Below.drew ?_ | with_reducible refine below_drewN ?_ _ | with_reducible refine Below.setCell ?_ ?_ _ | with_reducible refine Below.alloc ?_ ?_ _ | omega | (simp; done) | (simp; omega)))))
            have hoW : OnlyL [sS + 1] wq wq.drew := OnlyL.drew (OnlyL.refl _ _)
            clear hH0 xI xQ xP xR xB0 xB1 j0 j1
            generalize wq.drew = w2 at RF9 hoW ⊢
            have cR9 := cellH (Lib.hid RF9.out.rs)
            have fzR9 := frozH (Lib.hid RF9.out.rs)
            have lR9 := lt_of_H (Lib.hid RF9.out.rs)
            gi_wp2_with fail
            exact ⟨OnlyL.from (L := [sS + 1]) (OnlyL.setCell hoW (.inl (List.mem_singleton.2 rfl)) _) _ HCL.out, .inl (fun h => HXP.out (prefix_nt h HP.out))⟩
        · have e1 : (xs.toList != ps.toList) = true := bytes_ne hxs
          have e1b : (xs.toList == ps.toList) = false := by simpa [bne] using e1
          have HXP : Hid (¬ ((xs, xv), pre.length) = ((ps, pv), pre.length)) := fun h => hxs (by injection h with h _; injection h)
          clear hxs
          refine round_held_drew (S := fun w' => w'.cell? ⟨ib, 0, none⟩ = some (.int .i64 pre.length) ∧ w'.cell? ⟨zB, 0, none⟩ = some (.pointer (some ⟨pb, 0, none⟩)) ∧ w'.cell? ⟨pb, 2, none⟩ = some (.pointer (some ⟨r, 0, none⟩)) ∧ w'.cell? ⟨r, 0, none⟩ = some (.slice (some ⟨g, off, none⟩) N.length c5) ∧ w'.cell? ⟨Bp, 0, none⟩ = some (.string xs) ∧ w'.cell? ⟨Bp, 1, none⟩ = some (.int .i64 xv) ∧ w'.cell? ⟨g, off + pre.length * 2, none⟩ = some (.string ps) ∧ w'.cell? ⟨g, off + pre.length * 2 + 1, none⟩ = some (.int .i64 pv)) (by kernel_rfl) (by kernel_rfl) ?_ (fun hH0 => ?_)
          · exact ⟨xI, xQ, xP, xR, xB0, xB1, j0, j1⟩
          refine tkY (i := 0) (oi := q0) (v := ?_) rfl (by kernel_rfl) (fun _ _ _ h => h) (by rfl) ?_ ‹_› ?_; rotate_left
          · intro wq hSw; simp only [q0]; (try dsimp only at hSw); go_simp; (try with_reducible rfl)
          try simp only [q0, Act.put, s1, s2, s3]
          refine tkY (i := 1) (oi := q1) (v := ?_) rfl (by kernel_rfl) (fun _ _ _ h => h) (by rfl) ?_ ‹_› ?_; rotate_left
          · intro wq hSw; simp only [q1]; (try dsimp only at hSw); go_simp; (try with_reducible rfl)
          try simp only [q1, Act.put, s1, s2, s3]
          refine tkY (i := 2) (oi := q2) (v := ?_) rfl (by kernel_rfl) (fun _ _ _ h => h) (by rfl) ?_ ‹_› ?_; rotate_left
          · intro wq hSw; simp only [q2]; (try dsimp only at hSw); go_simp; (try with_reducible rfl)
          try simp only [q2, Act.put, s1, s2, s3]
          refine tkY (i := 3) (oi := q3) (v := ?_) rfl (by kernel_rfl) (fun _ _ _ h => h) (by rfl) ?_ ‹_› ?_; rotate_left
          · intro wq hSw; simp only [q3]; (try dsimp only at hSw); go_simp; (try with_reducible rfl)
          try simp only [q3, Act.put, s1, s2, s3]
          refine tkY (i := 4) (oi := q4) (v := ?_) rfl (by kernel_rfl) (fun _ _ _ h => h) (by rfl) ?_ ‹_› ?_; rotate_left
          · intro wq hSw; simp only [q4]; (try dsimp only at hSw); go_simp; (try with_reducible rfl)
          try simp only [q4, Act.put, s1, s2, s3]
          refine tkY (i := 5) (oi := q5) (v := ?_) rfl (by kernel_rfl) (fun _ _ _ h => h) (by rfl) ?_ ‹_› ?_; rotate_left
          · intro wq hSw; simp only [q5]; (try dsimp only at hSw); go_simp; (try with_reducible rfl)
          try simp only [q5, Act.put, s1, s2, s3]
          refine tkY (i := 6) (oi := q6) (v := ?_) rfl (by kernel_rfl) (fun _ _ _ h => h) (by rfl) ?_ ‹_› ?_; rotate_left
          · intro wq hSw; simp only [q6]; (try dsimp only at hSw); go_simp; (try with_reducible rfl)
          try simp only [q6, Act.put, s1, s2, s3]
          refine tkY (i := 7) (oi := q7) (v := ?_) rfl (by kernel_rfl) (fun _ _ _ h => h) (by rfl) ?_ ‹_› ?_; rotate_left
          · intro wq hSw; simp only [q7]; (try dsimp only at hSw); go_simp; (try with_reducible rfl)
          try simp only [q7, Act.put, s1, s2, s3]
          refine tkY (i := 8) (oi := q8) (v := ?_) rfl (by kernel_rfl) (fun _ _ _ h => h) (by rfl) ?_ ‹_› ?_; rotate_left
          · intro wq hSw; simp only [q8]; (try dsimp only at hSw); go_simp; (try with_reducible rfl)
          try simp only [q8, Act.put, s1, s2, s3]
          refine tkY (i := 9) (oi := q9) (v := ?_) rfl (by kernel_rfl) (fun _ _ _ h => h) (by rfl) ?_ ‹_› ?_; rotate_left
          · intro wq hSw; simp only [q9]; (try dsimp only at hSw); go_simp; (try with_reducible rfl)
          try simp only [q9, Act.put, s1, s2, s3]
          refine tkY (i := 10) (oi := q10) (v := ?_) rfl (by kernel_rfl) (fun _ _ _ h => h) (by rfl) ?_ ‹_› ?_; rotate_left
          · intro wq hSw; simp only [q10]; (try dsimp only at hSw); go_simp; (try with_reducible rfl)
          try simp only [q10, Act.put, s1, s2, s3]
          refine tkY (i := 11) (oi := q11) (v := ?_) rfl (by kernel_rfl) (fun _ _ _ h => h) (by rfl) ?_ ‹_› ?_; rotate_left
          · intro wq hSw; simp only [q11]; (try dsimp only at hSw); go_simp; (try with_reducible rfl)
          try simp only [q11, Act.put, s1, s2, s3]
          refine tkY (i := 12) (oi := q12) (v := ?_) rfl (by kernel_rfl) (fun _ _ _ h => h) (by rfl) ?_ ‹_› ?_; rotate_left
          · intro wq hSw; simp only [q12]; (try dsimp only at hSw); go_simp; (try with_reducible rfl)
          try simp only [q12, Act.put, s1, s2, s3]
          refine tkY (i := 13) (oi := q13) (v := ?_) rfl (by kernel_rfl) (fun _ _ _ h => h) (by rfl) ?_ ‹_› ?_; rotate_left
          · intro wq hSw; simp only [q13]; (try dsimp only at hSw); go_simp; (try with_reducible rfl)
          try simp only [q13, Act.put, s1, s2, s3]
          refine tkY (i := 14) (oi := q14) (v := ?_) rfl (by kernel_rfl) (fun _ _ _ h => h) (by rfl) ?_ ‹_› ?_; rotate_left
          · intro wq hSw; simp only [q14]; (try dsimp only at hSw); go_simp; (try with_reducible rfl)
          try simp only [q14, Act.put, s1, s2, s3]
          refine tkY (i := 15) (oi := q15) (v := ?_) rfl (by kernel_rfl) (fun _ _ _ h => h) (by rfl) ?_ ‹_› ?_; rotate_left
          · intro wq hSw; simp only [q15]; (try dsimp only at hSw); go_simp; (try with_reducible rfl)
          try simp only [q15, Act.put, s1, s2, s3]
          refine tkY (i := 16) (oi := q16) (v := ?_) rfl (by kernel_rfl) (fun _ _ _ h => h) (by rfl) ?_ ‹_› ?_; rotate_left
          · intro wq hSw; simp only [q16]; (try dsimp only at hSw); go_simp; (try with_reducible rfl)
          try simp only [q16, Act.put, s1, s2, s3]
          refine tkY (i := 17) (oi := q17) (v := ?_) rfl (by kernel_rfl) (fun _ _ _ h => h) (by rfl) ?_ ‹_› ?_; rotate_left
          · intro wq hSw; simp only [q17]; (try dsimp only at hSw); go_simp; (try with_reducible rfl)
          try simp only [q17, Act.put, s1, s2, s3]
          refine tkY (i := 18) (oi := q18) (v := ?_) rfl (by kernel_rfl) (fun _ _ _ h => h) (by rfl) ?_ ‹_› ?_; rotate_left
          · intro wq hSw; simp only [q18]; (try dsimp only at hSw); go_simp; (try with_reducible rfl)
          try simp only [q18, Act.put, s1, s2, s3]
          refine tkY (i := 19) (oi := q19) (v := ?_) rfl (by kernel_rfl) (fun _ _ _ h => h) (by rfl) ?_ ‹_› ?_; rotate_left
          · intro wq hSw; simp only [q19]; (try dsimp only at hSw); go_simp; (try with_reducible rfl)
          try simp only [q19, Act.put, s1, s2, s3]
          refine tkY (i := 20) (oi := q20) (v := ?_) rfl (by kernel_rfl) (fun _ _ _ h => h) (by rfl) ?_ ‹_› ?_; rotate_left
          · intro wq hSw; simp only [q20]; (try dsimp only at hSw); go_simp; (try with_reducible rfl)
          try simp only [q20, Act.put, s1, s2, s3]
          refine tkY (i := 21) (oi := q21) (v := ?_) rfl (by kernel_rfl) (fun _ _ _ h => h) (by rfl) ?_ ‹_› ?_; rotate_left
          · intro wq hSw; simp only [q21]; (try dsimp only at hSw); go_simp; (try with_reducible rfl)
          try simp only [q21, Act.put, s1, s2, s3]
          refine tkY (i := 22) (oi := q22) (v := ?_) rfl (by kernel_rfl) (fun _ _ _ h => h) (by rfl) ?_ ‹_› ?_; rotate_left
          · intro wq hSw; simp only [q22]; (try dsimp only at hSw); go_simp; (try with_reducible rfl)
          try simp only [q22, Act.put, s1, s2, s3]
          refine tkY (i := 23) (oi := q23) (v := ?_) rfl (by kernel_rfl) (fun _ _ _ h => h) (by rfl) ?_ ‹_› ?_; rotate_left
          · intro wq hSw; simp only [q23]; (try dsimp only at hSw); go_simp; (try with_reducible rfl)
          try simp only [q23, Act.put, s1, s2, s3]
          refine tkY (i := 24) (oi := q24) (v := ?_) rfl (by kernel_rfl) (fun _ _ _ h => h) (by rfl) ?_ ‹_› ?_; rotate_left
          · intro wq hSw; simp only [q24]; (try dsimp only at hSw); go_simp; (try with_reducible rfl)
          try simp only [q24, Act.put, s1, s2, s3]
          refine tkY (i := 25) (oi := q25) (v := ?_) rfl (by kernel_rfl) (fun _ _ _ h => h) (by rfl) ?_ ‹_› ?_; rotate_left
          · intro wq hSw; simp only [q25]; (try dsimp only at hSw); go_simp; (try with_reducible rfl)
          try simp only [q25, Act.put, s1, s2, s3]
          refine tkY (i := 26) (oi := q26) (v := ?_) rfl (by kernel_rfl) (fun _ _ _ h => h) (by rfl) ?_ ‹_› ?_; rotate_left
          · intro wq hSw; simp only [q26]; (try dsimp only at hSw); go_simp; (try with_reducible rfl)
          try simp only [q26, Act.put, s1, s2, s3]
          refine tkY (i := 27) (oi := q27) (v := ?_) rfl (by kernel_rfl) (fun _ _ _ h => h) (by rfl) ?_ ‹_› ?_; rotate_left
          · intro wq hSw; simp only [q27]; (try dsimp only at hSw); go_simp; (try with_reducible rfl)
          try simp only [q27, Act.put, s1, s2, s3]
          refine tkY (i := 28) (oi := q28) (v := ?_) rfl (by kernel_rfl) (fun _ _ _ h => h) (by rfl) ?_ ‹_› ?_; rotate_left
          · intro wq hSw; simp only [q28]; (try dsimp only at hSw); go_simp; (try with_reducible rfl)
          try simp only [q28, Act.put, s1, s2, s3]
          refine tkY (i := 29) (oi := q29) (v := ?_) rfl (by kernel_rfl) (fun _ _ _ h => h) (by rfl) ?_ ‹_› ?_; rotate_left
          · intro wq hSw; simp only [q29]; (try dsimp only at hSw); go_simp; (try with_reducible rfl)
          try simp only [q29, Act.put, s1, s2, s3]
          refine tkY (i := 30) (oi := q30) (v := ?_) rfl (by kernel_rfl) (fun _ _ _ h => h) (by rfl) ?_ ‹_› ?_; rotate_left
          · intro wq hSw; simp only [q30]; (try dsimp only at hSw); go_simp; (try with_reducible rfl)
          try simp only [q30, Act.put, s1, s2, s3]
          refine tkY (i := 31) (oi := q31) (v := ?_) rfl (by kernel_rfl) (fun _ _ _ h => h) (by rfl) ?_ ‹_› ?_; rotate_left
          · intro wq hSw; simp only [q31]; (try dsimp only at hSw); go_simp; (try with_reducible rfl)
          try simp only [q31, Act.put, s1, s2, s3]
          refine tkN (i := 32) (oi := q32) rfl (by kernel_rfl) (fun _ _ _ h => h) (by rfl) ‹_› ?_
          try simp only [q32, Act.put, s1, s2, s3]
          refine tkN (i := 33) (oi := q33) rfl (by kernel_rfl) (fun _ _ _ h => h) (by rfl) ‹_› ?_
          try simp only [q33, Act.put, s1, s2, s3]
          refine tkN (i := 34) (oi := q34) rfl (by kernel_rfl) (fun _ _ _ h => h) (by rfl) ‹_› ?_
          try simp only [q34, Act.put, s1, s2, s3]
          refine tkN (i := 35) (oi := q35) rfl (by kernel_rfl) (fun _ _ _ h => h) (by rfl) ‹_› ?_
          try simp only [q35, Act.put, s1, s2, s3]
          refine tkN (i := 36) (oi := q36) rfl (by kernel_rfl) (fun _ _ _ h => h) (by rfl) ‹_› ?_
          try simp only [q36, Act.put, s1, s2, s3]
          refine tkN (i := 37) (oi := q37) rfl (by kernel_rfl) (fun _ _ _ h => h) (by rfl) ‹_› ?_
          try simp only [q37, Act.put, s1, s2, s3]
          refine tkN (i := 38) (oi := q38) rfl (by kernel_rfl) (fun _ _ _ h => h) (by rfl) ‹_› ?_
          try simp only [q38, Act.put, s1, s2, s3]
          refine tkN (i := 39) (oi := q39) rfl (by kernel_rfl) (fun _ _ _ h => h) (by rfl) ‹_› ?_
          try simp only [q39, Act.put, s1, s2, s3]
          refine tkN (i := 40) (oi := q40) rfl (by kernel_rfl) (fun _ _ _ h => h) (by rfl) ‹_› ?_
          try simp only [q40, Act.put, s1, s2, s3]
          refine tkN (i := 41) (oi := q41) rfl (by kernel_rfl) (fun _ _ _ h => h) (by rfl) ‹_› ?_
          try simp only [q41, Act.put, s1, s2, s3]
          refine tkN (i := 42) (oi := q42) rfl (by kernel_rfl) (fun _ _ _ h => h) (by rfl) ‹_› ?_
          try simp only [q42, Act.put, s1, s2, s3]
          refine tkN (i := 43) (oi := q43) rfl (by kernel_rfl) (fun _ _ _ h => h) (by rfl) ‹_› ?_
          try simp only [q43, Act.put, s1, s2, s3]
          refine tkN (i := 44) (oi := q44) rfl (by kernel_rfl) (fun _ _ _ h => h) (by rfl) ‹_› ?_
          try simp only [q44, Act.put, s1, s2, s3]
          refine tkN (i := 45) (oi := q45) rfl (by kernel_rfl) (fun _ _ _ h => h) (by rfl) ‹_› ?_
          try simp only [q45, Act.put, s1, s2, s3]
          refine tkY (i := 46) (oi := q46) (v := ?_) rfl (by kernel_rfl) (fun _ _ _ h => h) (by rfl) ?_ ‹_› ?_; rotate_left
          · intro wq hSw; simp only [q46]; (try dsimp only at hSw); go_simp; (try with_reducible rfl)
          try simp only [q46, Act.put, s1, s2, s3]
          refine wpAnyH_done (by kernel_rfl) ?_ _
          refine noOut_normal ?_
          have RF9 := Lib.hid (RF8.out.below rfl (show Below wq.heap.size wq wq.drew by (repeat' (first | with_reducible exact Below.refl _ _ | with_reducible assumption | with_reducible refine Below.drew ?_ | with_reducible refine below_drewN ?_ _ | with_reducible refine Below.setCell ?_ ?_ _ | with_reducible refine Below.alloc ?_ ?_ _ | omega | (simp; done) | (simp; omega)))))
          have hoW : OnlyL [sS + 1] wq wq.drew := OnlyL.drew (OnlyL.refl _ _)
          clear hH0 xI xQ xP xR xB0 xB1 j0 j1
          generalize wq.drew = w2 at RF9 hoW ⊢
          have cR9 := cellH (Lib.hid RF9.out.rs)
          have fzR9 := frozH (Lib.hid RF9.out.rs)
          have lR9 := lt_of_H (Lib.hid RF9.out.rs)
          gi_wp2_with fail
          exact ⟨OnlyL.from (L := [sS + 1]) (OnlyL.setCell hoW (.inl (List.mem_singleton.2 rfl)) _) _ HCL.out, .inl (fun h => HXP.out (prefix_nt h HP.out))⟩
      · have e0 : ((xi : Int) != (pre.length : Int)) = true := by rw [bne_iff_ne]; omega
        have HXP : Hid (¬ ((xs, xv), xi) = ((ps, pv), pre.length)) := fun h => hxi (by injection h)
        clear hxi
        refine round_held_drew (S := fun w' => w'.cell? ⟨ib, 0, none⟩ = some (.int .i64 pre.length) ∧ w'.cell? ⟨zB, 0, none⟩ = some (.pointer (some ⟨pb, 0, none⟩)) ∧ w'.cell? ⟨pb, 2, none⟩ = some (.pointer (some ⟨r, 0, none⟩)) ∧ w'.cell? ⟨r, 0, none⟩ = some (.slice (some ⟨g, off, none⟩) N.length c5) ∧ w'.cell? ⟨Bp, 0, none⟩ = some (.string xs) ∧ w'.cell? ⟨Bp, 1, none⟩ = some (.int .i64 xv) ∧ w'.cell? ⟨g, off + pre.length * 2, none⟩ = some (.string ps) ∧ w'.cell? ⟨g, off + pre.length * 2 + 1, none⟩ = some (.int .i64 pv)) (by kernel_rfl) (by kernel_rfl) ?_ (fun hH0 => ?_)
        · exact ⟨xI, xQ, xP, xR, xB0, xB1, j0, j1⟩
        refine tkY (i := 0) (oi := q0) (v := ?_) rfl (by kernel_rfl) (fun _ _ _ h => h) (by rfl) ?_ ‹_› ?_; rotate_left
        · intro wq hSw; simp only [q0]; (try dsimp only at hSw); go_simp; (try with_reducible rfl)
        try simp only [q0, Act.put, s1, s2, s3]
        refine tkY (i := 1) (oi := q1) (v := ?_) rfl (by kernel_rfl) (fun _ _ _ h => h) (by rfl) ?_ ‹_› ?_; rotate_left
        · intro wq hSw; simp only [q1]; (try dsimp only at hSw); go_simp; (try with_reducible rfl)
        try simp only [q1, Act.put, s1, s2, s3]
        refine tkY (i := 2) (oi := q2) (v := ?_) rfl (by kernel_rfl) (fun _ _ _ h => h) (by rfl) ?_ ‹_› ?_; rotate_left
        · intro wq hSw; simp only [q2]; (try dsimp only at hSw); go_simp; (try with_reducible rfl)
        try simp only [q2, Act.put, s1, s2, s3]
        refine tkY (i := 3) (oi := q3) (v := ?_) rfl (by kernel_rfl) (fun _ _ _ h => h) (by rfl) ?_ ‹_› ?_; rotate_left
        · intro wq hSw; simp only [q3]; (try dsimp only at hSw); go_simp; (try with_reducible rfl)
        try simp only [q3, Act.put, s1, s2, s3]
        refine tkY (i := 4) (oi := q4) (v := ?_) rfl (by kernel_rfl) (fun _ _ _ h => h) (by rfl) ?_ ‹_› ?_; rotate_left
        · intro wq hSw; simp only [q4]; (try dsimp only at hSw); go_simp; (try with_reducible rfl)
        try simp only [q4, Act.put, s1, s2, s3]
        refine tkY (i := 5) (oi := q5) (v := ?_) rfl (by kernel_rfl) (fun _ _ _ h => h) (by rfl) ?_ ‹_› ?_; rotate_left
        · intro wq hSw; simp only [q5]; (try dsimp only at hSw); go_simp; (try with_reducible rfl)
        try simp only [q5, Act.put, s1, s2, s3]
        refine tkY (i := 6) (oi := q6) (v := ?_) rfl (by kernel_rfl) (fun _ _ _ h => h) (by rfl) ?_ ‹_› ?_; rotate_left
        · intro wq hSw; simp only [q6]; (try dsimp only at hSw); go_simp; (try with_reducible rfl)
        try simp only [q6, Act.put, s1, s2, s3]
        refine tkY (i := 7) (oi := q7) (v := ?_) rfl (by kernel_rfl) (fun _ _ _ h => h) (by rfl) ?_ ‹_› ?_; rotate_left
        · intro wq hSw; simp only [q7]; (try dsimp only at hSw); go_simp; (try with_reducible rfl)
        try simp only [q7, Act.put, s1, s2, s3]
        refine tkY (i := 8) (oi := q8) (v := ?_) rfl (by kernel_rfl) (fun _ _ _ h => h) (by rfl) ?_ ‹_› ?_; rotate_left
        · intro wq hSw; simp only [q8]; (try dsimp only at hSw); go_simp; (try with_reducible rfl)
        try simp only [q8, Act.put, s1, s2, s3]
        refine tkY (i := 9) (oi := q9) (v := ?_) rfl (by kernel_rfl) (fun _ _ _ h => h) (by rfl) ?_ ‹_› ?_; rotate_left
        · intro wq hSw; simp only [q9]; (try dsimp only at hSw); go_simp; (try with_reducible rfl)
        try simp only [q9, Act.put, s1, s2, s3]
        refine tkY (i := 10) (oi := q10) (v := ?_) rfl (by kernel_rfl) (fun _ _ _ h => h) (by rfl) ?_ ‹_› ?_; rotate_left
        · intro wq hSw; simp only [q10]; (try dsimp only at hSw); go_simp; (try with_reducible rfl)
        try simp only [q10, Act.put, s1, s2, s3]
        refine tkY (i := 11) (oi := q11) (v := ?_) rfl (by kernel_rfl) (fun _ _ _ h => h) (by rfl) ?_ ‹_› ?_; rotate_left
        · intro wq hSw; simp only [q11]; (try dsimp only at hSw); go_simp; (try with_reducible rfl)
        try simp only [q11, Act.put, s1, s2, s3]
        refine tkY (i := 12) (oi := q12) (v := ?_) rfl (by kernel_rfl) (fun _ _ _ h => h) (by rfl) ?_ ‹_› ?_; rotate_left
        · intro wq hSw; simp only [q12]; (try dsimp only at hSw); go_simp; (try with_reducible rfl)
        try simp only [q12, Act.put, s1, s2, s3]
        refine tkY (i := 13) (oi := q13) (v := ?_) rfl (by kernel_rfl) (fun _ _ _ h => h) (by rfl) ?_ ‹_› ?_; rotate_left
        · intro wq hSw; simp only [q13]; (try dsimp only at hSw); go_simp; (try with_reducible rfl)
        try simp only [q13, Act.put, s1, s2, s3]
        refine tkY (i := 14) (oi := q14) (v := ?_) rfl (by kernel_rfl) (fun _ _ _ h => h) (by rfl) ?_ ‹_› ?_; rotate_left
        · intro wq hSw; simp only [q14]; (try dsimp only at hSw); go_simp; (try with_reducible rfl)
        try simp only [q14, Act.put, s1, s2, s3]
        refine tkY (i := 15) (oi := q15) (v := ?_) rfl (by kernel_rfl) (fun _ _ _ h => h) (by rfl) ?_ ‹_› ?_; rotate_left
        · intro wq hSw; simp only [q15]; (try dsimp only at hSw); go_simp; (try with_reducible rfl)
        try simp only [q15, Act.put, s1, s2, s3]
        refine tkN (i := 16) (oi := q16) rfl (by kernel_rfl) (fun _ _ _ h => h) (by rfl) ‹_› ?_
        try simp only [q16, Act.put, s1, s2, s3]
        refine tkN (i := 17) (oi := q17) rfl (by kernel_rfl) (fun _ _ _ h => h) (by rfl) ‹_› ?_
        try simp only [q17, Act.put, s1, s2, s3]
        refine tkN (i := 18) (oi := q18) rfl (by kernel_rfl) (fun _ _ _ h => h) (by rfl) ‹_› ?_
        try simp only [q18, Act.put, s1, s2, s3]
        refine tkN (i := 19) (oi := q19) rfl (by kernel_rfl) (fun _ _ _ h => h) (by rfl) ‹_› ?_
        try simp only [q19, Act.put, s1, s2, s3]
        refine tkN (i := 20) (oi := q20) rfl (by kernel_rfl) (fun _ _ _ h => h) (by rfl) ‹_› ?_
        try simp only [q20, Act.put, s1, s2, s3]
        refine tkN (i := 21) (oi := q21) rfl (by kernel_rfl) (fun _ _ _ h => h) (by rfl) ‹_› ?_
        try simp only [q21, Act.put, s1, s2, s3]
        refine tkN (i := 22) (oi := q22) rfl (by kernel_rfl) (fun _ _ _ h => h) (by rfl) ‹_› ?_
        try simp only [q22, Act.put, s1, s2, s3]
        refine tkN (i := 23) (oi := q23) rfl (by kernel_rfl) (fun _ _ _ h => h) (by rfl) ‹_› ?_
        try simp only [q23, Act.put, s1, s2, s3]
        refine tkN (i := 24) (oi := q24) rfl (by kernel_rfl) (fun _ _ _ h => h) (by rfl) ‹_› ?_
        try simp only [q24, Act.put, s1, s2, s3]
        refine tkN (i := 25) (oi := q25) rfl (by kernel_rfl) (fun _ _ _ h => h) (by rfl) ‹_› ?_
        try simp only [q25, Act.put, s1, s2, s3]
        refine tkN (i := 26) (oi := q26) rfl (by kernel_rfl) (fun _ _ _ h => h) (by rfl) ‹_› ?_
        try simp only [q26, Act.put, s1, s2, s3]
        refine tkN (i := 27) (oi := q27) rfl (by kernel_rfl) (fun _ _ _ h => h) (by rfl) ‹_› ?_
        try simp only [q27, Act.put, s1, s2, s3]
        refine tkN (i := 28) (oi := q28) rfl (by kernel_rfl) (fun _ _ _ h => h) (by rfl) ‹_› ?_
        try simp only [q28, Act.put, s1, s2, s3]
        refine tkN (i := 29) (oi := q29) rfl (by kernel_rfl) (fun _ _ _ h => h) (by rfl) ‹_› ?_
        try simp only [q29, Act.put, s1, s2, s3]
        refine tkY (i := 30) (oi := q30) (v := ?_) rfl (by kernel_rfl) (fun _ _ _ h => h) (by rfl) ?_ ‹_› ?_; rotate_left
        · intro wq hSw; simp only [q30]; (try dsimp only at hSw); go_simp; (try with_reducible rfl)
        try simp only [q30, Act.put, s1, s2, s3]
        refine tkY (i := 31) (oi := q31) (v := ?_) rfl (by kernel_rfl) (fun _ _ _ h => h) (by rfl) ?_ ‹_› ?_; rotate_left
        · intro wq hSw; simp only [q31]; (try dsimp only at hSw); go_simp; (try with_reducible rfl)
        try simp only [q31, Act.put, s1, s2, s3]
        refine tkN (i := 32) (oi := q32) rfl (by kernel_rfl) (fun _ _ _ h => h) (by rfl) ‹_› ?_
        try simp only [q32, Act.put, s1, s2, s3]
        refine tkN (i := 33) (oi := q33) rfl (by kernel_rfl) (fun _ _ _ h => h) (by rfl) ‹_› ?_
        try simp only [q33, Act.put, s1, s2, s3]
        refine tkN (i := 34) (oi := q34) rfl (by kernel_rfl) (fun _ _ _ h => h) (by rfl) ‹_› ?_
        try simp only [q34, Act.put, s1, s2, s3]
        refine tkN (i := 35) (oi := q35) rfl (by kernel_rfl) (fun _ _ _ h => h) (by rfl) ‹_› ?_
        try simp only [q35, Act.put, s1, s2, s3]
        refine tkN (i := 36) (oi := q36) rfl (by kernel_rfl) (fun _ _ _ h => h) (by rfl) ‹_› ?_
        try simp only [q36, Act.put, s1, s2, s3]
        refine tkN (i := 37) (oi := q37) rfl (by kernel_rfl) (fun _ _ _ h => h) (by rfl) ‹_› ?_
        try simp only [q37, Act.put, s1, s2, s3]
        refine tkN (i := 38) (oi := q38) rfl (by kernel_rfl) (fun _ _ _ h => h) (by rfl) ‹_› ?_
        try simp only [q38, Act.put, s1, s2, s3]
        refine tkN (i := 39) (oi := q39) rfl (by kernel_rfl) (fun _ _ _ h => h) (by rfl) ‹_› ?_
        try simp only [q39, Act.put, s1, s2, s3]
        refine tkN (i := 40) (oi := q40) rfl (by kernel_rfl) (fun _ _ _ h => h) (by rfl) ‹_› ?_
        try simp only [q40, Act.put, s1, s2, s3]
        refine tkN (i := 41) (oi := q41) rfl (by kernel_rfl) (fun _ _ _ h => h) (by rfl) ‹_› ?_
        try simp only [q41, Act.put, s1, s2, s3]
        refine tkN (i := 42) (oi := q42) rfl (by kernel_rfl) (fun _ _ _ h => h) (by rfl) ‹_› ?_
        try simp only [q42, Act.put, s1, s2, s3]
        refine tkN (i := 43) (oi := q43) rfl (by kernel_rfl) (fun _ _ _ h => h) (by rfl) ‹_› ?_
        try simp only [q43, Act.put, s1, s2, s3]
        refine tkN (i := 44) (oi := q44) rfl (by kernel_rfl) (fun _ _ _ h => h) (by rfl) ‹_› ?_
        try simp only [q44, Act.put, s1, s2, s3]
        refine tkN (i := 45) (oi := q45) rfl (by kernel_rfl) (fun _ _ _ h => h) (by rfl) ‹_› ?_
        try simp only [q45, Act.put, s1, s2, s3]
        refine tkY (i := 46) (oi := q46) (v := ?_) rfl (by kernel_rfl) (fun _ _ _ h => h) (by rfl) ?_ ‹_› ?_; rotate_left
        · intro wq hSw; simp only [q46]; (try dsimp only at hSw); go_simp; (try with_reducible rfl)
        try simp only [q46, Act.put, s1, s2, s3]
        refine wpAnyH_done (by kernel_rfl) ?_ _
        refine noOut_normal ?_
        have RF9 := Lib.hid (RF8.out.below rfl (show Below wq.heap.size wq wq.drew by (repeat' (first | with_reducible exact Below.refl _ _ | with_reducible assumption | with_reducible refine Below.drew ?_ | with_reducible refine below_drewN ?_ _ | with_reducible refine Below.setCell ?_ ?_ _ | with_reducible refine Below.alloc ?_ ?_ _ | omega | (simp; done) | (simp; omega)))))
        have hoW : OnlyL [sS + 1] wq wq.drew := OnlyL.drew (OnlyL.refl _ _)
        clear hH0 xI xQ xP xR xB0 xB1 j0 j1
        generalize wq.drew = w2 at RF9 hoW ⊢
        have cR9 := cellH (Lib.hid RF9.out.rs)
        have fzR9 := frozH (Lib.hid RF9.out.rs)
        have lR9 := lt_of_H (Lib.hid RF9.out.rs)
        gi_wp2_with fail
        exact ⟨OnlyL.from (L := [sS + 1]) (OnlyL.setCell hoW (.inl (List.mem_singleton.2 rfl)) _) _ HCL.out, .inl (fun h => HXP.out (prefix_nt h HP.out))⟩
    case done1 =>
      intro D1 xs W hD1 hxs hI hK
      rw [hxs] at hI
      obtain ⟨i1, i2, i3, i4⟩ := hI
      rw [List.length_zipIdx] at i1
      try rw [List.length_zipIdx] at i4
      subst ha
      have hB6 : Below ib w61 W := h67.trans i2
      have RF8 := Lib.hid (HRF1.out.below HIB.out hB6)
      have IB8 : Hid (W.heap[ib]? = some (.cells #[.int .i64 N.length] 3 (0, 0))) := i1
      have KD1c := Lib.hid hK
      have hw8 : Below w.heap.size w W := hw61.trans (hB6.mono zw6)
      have zW := hB6.size
      have KD0c : Hid (W.heap[D0]? = _) := (hB6.block _ lD0).trans KD0.out
      clear i1 i2 i3 hK hxs hB6
      gi_upto_region 19 with fail
      gi_cut [130] from 95 (fun s130 wx => s130 = .bool false ∧ Below W.heap.size W wx)
      case first =>
        as_aux_lemma =>
          have xI : W.cell? ⟨ib, 0, none⟩ = some (.int .i64 N.length) := cellH IB8 0
          have xB : W.cell? ⟨rb1, 0, none⟩ = some (.int .i64 1) := cellH (Lib.hid RF8.out.rb) 0
          have xQ : W.cell? ⟨zB, 0, none⟩ = some (.pointer (some ⟨pb, 0, none⟩)) := cellH (Lib.hid RF8.out.qb) 0
          have xP : W.cell? ⟨pb, 2, none⟩ = some (.pointer (some ⟨r, 0, none⟩)) := RF8.out.pl.bx.cell 2
          have xR : W.cell? ⟨r, 0, none⟩ = some (.slice A5 N.length c5) := cellH (Lib.hid RF8.out.pl.pr.rl.box) 0
          have xT : W.cell? ⟨sS, 0, none⟩ = some (.int .i64 stop) := cellH (Lib.hid RF8.out.st) 0
          have e6 : ((N.length : Int) != (N.length : Int)) = false := bne_self_eq_false _
          by_cases hs0 : 0 < stop
          · have d0 : decide ((0 : Int) < stop) = true := decide_eq_true hs0
            have dm : min stop (N.length : Int) = (N.length : Int) := by omega
            have dm2 : (if stop ≤ (N.length : Int) then stop else (N.length : Int)) = (N.length : Int) := by rw [if_neg (by omega)]
            refine (wpIn_wide (n := 3)).2 ?_
            refine wp_onlyN ?_
            refine wp_region_held_drew (S := fun w' => w'.cell? ⟨ib, 0, none⟩ = some (.int .i64 N.length) ∧ w'.cell? ⟨rb1, 0, none⟩ = some (.int .i64 1) ∧ w'.cell? ⟨zB, 0, none⟩ = some (.pointer (some ⟨pb, 0, none⟩)) ∧ w'.cell? ⟨pb, 2, none⟩ = some (.pointer (some ⟨r, 0, none⟩)) ∧ w'.cell? ⟨r, 0, none⟩ = some (.slice A5 N.length c5) ∧ w'.cell? ⟨sS, 0, none⟩ = some (.int .i64 stop)) (by kernel_rfl) ?_ (fun hH0 => ?_)
            · exact ⟨xI, xB, xQ, xP, xR, xT⟩
            refine tkY (i := 0) (oi := y0) (v := ?_) rfl (by kernel_rfl) (fun _ _ _ h => h) (by rfl) ?_ ‹_› ?_; rotate_left
            · intro wq hSw; simp only [y0]; (try dsimp only at hSw); go_simp; (try with_reducible rfl)
            try simp only [y0, Act.put, s1, s2, s3]
            refine tkY (i := 1) (oi := y1) (v := ?_) rfl (by kernel_rfl) (fun _ _ _ h => h) (by rfl) ?_ ‹_› ?_; rotate_left
            · intro wq hSw; simp only [y1]; (try dsimp only at hSw); go_simp; (try with_reducible rfl)
            try simp only [y1, Act.put, s1, s2, s3]
            refine tkY (i := 2) (oi := y2) (v := ?_) rfl (by kernel_rfl) (fun _ _ _ h => h) (by rfl) ?_ ‹_› ?_; rotate_left
            · intro wq hSw; simp only [y2]; (try dsimp only at hSw); go_simp; (try with_reducible rfl)
            try simp only [y2, Act.put, s1, s2, s3]
            refine tkN (i := 3) (oi := y3) rfl (by kernel_rfl) (fun _ _ _ h => h) (by rfl) ‹_› ?_
            try simp only [y3, Act.put, s1, s2, s3]
            refine tkN (i := 4) (oi := y4) rfl (by kernel_rfl) (fun _ _ _ h => h) (by rfl) ‹_› ?_
            try simp only [y4, Act.put, s1, s2, s3]
            refine tkN (i := 5) (oi := y5) rfl (by kernel_rfl) (fun _ _ _ h => h) (by rfl) ‹_› ?_
            try simp only [y5, Act.put, s1, s2, s3]
            refine tkN (i := 6) (oi := y6) rfl (by kernel_rfl) (fun _ _ _ h => h) (by rfl) ‹_› ?_
            try simp only [y6, Act.put, s1, s2, s3]
            refine tkN (i := 7) (oi := y7) rfl (by kernel_rfl) (fun _ _ _ h => h) (by rfl) ‹_› ?_
            try simp only [y7, Act.put, s1, s2, s3]
            refine tkN (i := 8) (oi := y8) rfl (by kernel_rfl) (fun _ _ _ h => h) (by rfl) ‹_› ?_
            try simp only [y8, Act.put, s1, s2, s3]
            refine tkN (i := 9) (oi := y9) rfl (by kernel_rfl) (fun _ _ _ h => h) (by rfl) ‹_› ?_
            try simp only [y9, Act.put, s1, s2, s3]
            refine tkN (i := 10) (oi := y10) rfl (by kernel_rfl) (fun _ _ _ h => h) (by rfl) ‹_› ?_
            try simp only [y10, Act.put, s1, s2, s3]
            refine tkN (i := 11) (oi := y11) rfl (by kernel_rfl) (fun _ _ _ h => h) (by rfl) ‹_› ?_
            try simp only [y11, Act.put, s1, s2, s3]
            refine tkN (i := 12) (oi := y12) rfl (by kernel_rfl) (fun _ _ _ h => h) (by rfl) ‹_› ?_
            try simp only [y12, Act.put, s1, s2, s3]
            refine tkY (i := 13) (oi := y13) (v := ?_) rfl (by kernel_rfl) (fun _ _ _ h => h) (by rfl) ?_ ‹_› ?_; rotate_left
            · intro wq hSw; simp only [y13]; (try dsimp only at hSw); go_simp; (try with_reducible rfl)
            try simp only [y13, Act.put, s1, s2, s3]
            refine tkY (i := 14) (oi := y14) (v := ?_) rfl (by kernel_rfl) (fun _ _ _ h => h) (by rfl) ?_ ‹_› ?_; rotate_left
            · intro wq hSw; simp only [y14]; (try dsimp only at hSw); go_simp; (try with_reducible rfl)
            try simp only [y14, Act.put, s1, s2, s3]
            refine tkY (i := 15) (oi := y15) (v := ?_) rfl (by kernel_rfl) (fun _ _ _ h => h) (by rfl) ?_ ‹_› ?_; rotate_left
            · intro wq hSw; simp only [y15]; (try dsimp only at hSw); go_simp; (try with_reducible rfl)
            try simp only [y15, Act.put, s1, s2, s3]
            refine tkY (i := 16) (oi := y16) (v := ?_) rfl (by kernel_rfl) (fun _ _ _ h => h) (by rfl) ?_ ‹_› ?_; rotate_left
            · intro wq hSw; simp only [y16]; (try dsimp only at hSw); go_simp; (try with_reducible rfl)
            try simp only [y16, Act.put, s1, s2, s3]
            refine tkY (i := 17) (oi := y17) (v := ?_) rfl (by kernel_rfl) (fun _ _ _ h => h) (by rfl) ?_ ‹_› ?_; rotate_left
            · intro wq hSw; simp only [y17]; (try dsimp only at hSw); go_simp; (try with_reducible rfl)
            try simp only [y17, Act.put, s1, s2, s3]
            refine tkY (i := 18) (oi := y18) (v := ?_) rfl (by kernel_rfl) (fun _ _ _ h => h) (by rfl) ?_ ‹_› ?_; rotate_left
            · intro wq hSw; simp only [y18]; (try dsimp only at hSw); go_simp; (try with_reducible rfl)
            try simp only [y18, Act.put, s1, s2, s3]
            refine tkY (i := 19) (oi := y19) (v := ?_) rfl (by kernel_rfl) (fun _ _ _ h => h) (by rfl) ?_ ‹_› ?_; rotate_left
            · intro wq hSw; simp only [y19]; (try dsimp only at hSw); go_simp; (try with_reducible rfl)
            try simp only [y19, Act.put, s1, s2, s3]
            refine tkY (i := 20) (oi := y20) (v := ?_) rfl (by kernel_rfl) (fun _ _ _ h => h) (by rfl) ?_ ‹_› ?_; rotate_left
            · intro wq hSw; simp only [y20]; (try dsimp only at hSw); go_simp; (try with_reducible rfl)
            try simp only [y20, Act.put, s1, s2, s3]
            refine tkY (i := 21) (oi := y21) (v := ?_) rfl (by kernel_rfl) (fun _ _ _ h => h) (by rfl) ?_ ‹_› ?_; rotate_left
            · intro wq hSw; simp only [y21]; (try dsimp only at hSw); go_simp; (try with_reducible rfl)
            try simp only [y21, Act.put, s1, s2, s3]
            refine tkY (i := 22) (oi := y22) (v := ?_) rfl (by kernel_rfl) (fun _ _ _ h => h) (by rfl) ?_ ‹_› ?_; rotate_left
            · intro wq hSw; simp only [y22]; (try dsimp only at hSw); go_simp; (try with_reducible rfl)
            try simp only [y22, Act.put, s1, s2, s3]
            refine tkY (i := 23) (oi := y23) (v := ?_) rfl (by kernel_rfl) (fun _ _ _ h => h) (by rfl) ?_ ‹_› ?_; rotate_left
            · intro wq hSw; simp only [y23]; (try dsimp only at hSw); go_simp; (try with_reducible rfl)
            try simp only [y23, Act.put, s1, s2, s3]
            refine tkY (i := 24) (oi := y24) (v := ?_) rfl (by kernel_rfl) (fun _ _ _ h => h) (by rfl) ?_ ‹_› ?_; rotate_left
            · intro wq hSw; simp only [y24]; (try dsimp only at hSw); go_simp; (try with_reducible rfl)
            try simp only [y24, Act.put, s1, s2, s3]
            refine tkY (i := 25) (oi := y25) (v := ?_) rfl (by kernel_rfl) (fun _ _ _ h => h) (by rfl) ?_ ‹_› ?_; rotate_left
            · intro wq hSw; simp only [y25]; (try dsimp only at hSw); go_simp; (try with_reducible rfl)
            try simp only [y25, Act.put, s1, s2, s3]
            refine tkY (i := 26) (oi := y26) (v := ?_) rfl (by kernel_rfl) (fun _ _ _ h => h) (by rfl) ?_ ‹_› ?_; rotate_left
            · intro wq hSw; simp only [y26]; (try dsimp only at hSw); go_simp; (try with_reducible rfl)
            try simp only [y26, Act.put, s1, s2, s3]
            refine tkY (i := 27) (oi := y27) (v := ?_) rfl (by kernel_rfl) (fun _ _ _ h => h) (by rfl) ?_ ‹_› ?_; rotate_left
            · intro wq hSw; simp only [y27]; (try dsimp only at hSw); go_simp; (try with_reducible rfl)
            try simp only [y27, Act.put, s1, s2, s3]
            refine tkY (i := 28) (oi := y28) (v := ?_) rfl (by kernel_rfl) (fun _ _ _ h => h) (by rfl) ?_ ‹_› ?_; rotate_left
            · intro wq hSw; simp only [y28]; (try dsimp only at hSw); go_simp; (try with_reducible rfl)
            try simp only [y28, Act.put, s1, s2, s3]
            refine tkY (i := 29) (oi := y29) (v := ?_) rfl (by kernel_rfl) (fun _ _ _ h => h) (by rfl) ?_ ‹_› ?_; rotate_left
            · intro wq hSw; simp only [y29]; (try dsimp only at hSw); go_simp; (try with_reducible rfl)
            try simp only [y29, Act.put, s1, s2, s3]
            refine tkY (i := 30) (oi := y30) (v := ?_) rfl (by kernel_rfl) (fun _ _ _ h => h) (by rfl) ?_ ‹_› ?_; rotate_left
            · intro wq hSw; simp only [y30]; (try dsimp only at hSw); go_simp; (try with_reducible rfl)
            try simp only [y30, Act.put, s1, s2, s3]
            refine tkY (i := 31) (oi := y31) (v := ?_) rfl (by kernel_rfl) (fun _ _ _ h => h) (by rfl) ?_ ‹_› ?_; rotate_left
            · intro wq hSw; simp only [y31]; (try dsimp only at hSw); go_simp; (try with_reducible rfl)
            try simp only [y31, Act.put, s1, s2, s3]
            refine tkY (i := 32) (oi := y32) (v := ?_) rfl (by kernel_rfl) (fun _ _ _ h => h) (by rfl) ?_ ‹_› ?_; rotate_left
            · intro wq hSw; simp only [y32]; (try dsimp only at hSw); go_simp; (try with_reducible rfl)
            try simp only [y32, Act.put, s1, s2, s3]
            refine tkY (i := 33) (oi := y33) (v := ?_) rfl (by kernel_rfl) (fun _ _ _ h => h) (by rfl) ?_ ‹_› ?_; rotate_left
            · intro wq hSw; simp only [y33]; (try dsimp only at hSw); go_simp; (try with_reducible rfl)
            try simp only [y33, Act.put, s1, s2, s3]
            refine tkY (i := 34) (oi := y34) (v := ?_) rfl (by kernel_rfl) (fun _ _ _ h => h) (by rfl) ?_ ‹_› ?_; rotate_left
            · intro wq hSw; simp only [y34]; (try dsimp only at hSw); go_simp; (try with_reducible rfl)
            try simp only [y34, Act.put, s1, s2, s3]
            refine tkY (i := 35) (oi := y35) (v := ?_) rfl (by kernel_rfl) (fun _ _ _ h => h) (by rfl) ?_ ‹_› ?_; rotate_left
            · intro wq hSw; simp only [y35]; (try dsimp only at hSw); go_simp; (try with_reducible rfl)
            try simp only [y35, Act.put, s1, s2, s3]
            refine wpAnyH_done (by kernel_rfl) ?_ _
            refine onlyN_normal ?_
            gi_wp2_with fail
            gi_meet
            exact ⟨rfl, by (repeat' (first | with_reducible exact Below.refl _ _ | with_reducible assumption | with_reducible refine Below.drew ?_ | with_reducible refine below_drewN ?_ _ | with_reducible refine Below.setCell ?_ ?_ _ | with_reducible refine Below.alloc ?_ ?_ _ | omega | (simp; done) | (simp; omega)))⟩
          · have d0 : decide ((0 : Int) < stop) = false := decide_eq_false hs0
            refine (wpIn_wide (n := 3)).2 ?_
            refine wp_onlyN ?_
            refine wp_region_held_drew (S := fun w' => w'.cell? ⟨ib, 0, none⟩ = some (.int .i64 N.length) ∧ w'.cell? ⟨rb1, 0, none⟩ = some (.int .i64 1) ∧ w'.cell? ⟨zB, 0, none⟩ = some (.pointer (some ⟨pb, 0, none⟩)) ∧ w'.cell? ⟨pb, 2, none⟩ = some (.pointer (some ⟨r, 0, none⟩)) ∧ w'.cell? ⟨r, 0, none⟩ = some (.slice A5 N.length c5) ∧ w'.cell? ⟨sS, 0, none⟩ = some (.int .i64 stop)) (by kernel_rfl) ?_ (fun hH0 => ?_)
            · exact ⟨xI, xB, xQ, xP, xR, xT⟩
            refine tkY (i := 0) (oi := y0) (v := ?_) rfl (by kernel_rfl) (fun _ _ _ h => h) (by rfl) ?_ ‹_› ?_; rotate_left
            · intro wq hSw; simp only [y0]; (try dsimp only at hSw); go_simp; (try with_reducible rfl)
            try simp only [y0, Act.put, s1, s2, s3]
            refine tkY (i := 1) (oi := y1) (v := ?_) rfl (by kernel_rfl) (fun _ _ _ h => h) (by rfl) ?_ ‹_› ?_; rotate_left
            · intro wq hSw; simp only [y1]; (try dsimp only at hSw); go_simp; (try with_reducible rfl)
            try simp only [y1, Act.put, s1, s2, s3]
            refine tkY (i := 2) (oi := y2) (v := ?_) rfl (by kernel_rfl) (fun _ _ _ h => h) (by rfl) ?_ ‹_› ?_; rotate_left
            · intro wq hSw; simp only [y2]; (try dsimp only at hSw); go_simp; (try with_reducible rfl)
            try simp only [y2, Act.put, s1, s2, s3]
            refine tkN (i := 3) (oi := y3) rfl (by kernel_rfl) (fun _ _ _ h => h) (by rfl) ‹_› ?_
            try simp only [y3, Act.put, s1, s2, s3]
            refine tkN (i := 4) (oi := y4) rfl (by kernel_rfl) (fun _ _ _ h => h) (by rfl) ‹_› ?_
            try simp only [y4, Act.put, s1, s2, s3]
            refine tkN (i := 5) (oi := y5) rfl (by kernel_rfl) (fun _ _ _ h => h) (by rfl) ‹_› ?_
            try simp only [y5, Act.put, s1, s2, s3]
            refine tkN (i := 6) (oi := y6) rfl (by kernel_rfl) (fun _ _ _ h => h) (by rfl) ‹_› ?_
            try simp only [y6, Act.put, s1, s2, s3]
            refine tkN (i := 7) (oi := y7) rfl (by kernel_rfl) (fun _ _ _ h => h) (by rfl) ‹_› ?_
            try simp only [y7, Act.put, s1, s2, s3]
            refine tkN (i := 8) (oi := y8) rfl (by kernel_rfl) (fun _ _ _ h => h) (by rfl) ‹_› ?_
            try simp only [y8, Act.put, s1, s2, s3]
            refine tkN (i := 9) (oi := y9) rfl (by kernel_rfl) (fun _ _ _ h => h) (by rfl) ‹_› ?_
            try simp only [y9, Act.put, s1, s2, s3]
            refine tkN (i := 10) (oi := y10) rfl (by kernel_rfl) (fun _ _ _ h => h) (by rfl) ‹_› ?_
            try simp only [y10, Act.put, s1, s2, s3]
            refine tkN (i := 11) (oi := y11) rfl (by kernel_rfl) (fun _ _ _ h => h) (by rfl) ‹_› ?_
            try simp only [y11, Act.put, s1, s2, s3]
            refine tkN (i := 12) (oi := y12) rfl (by kernel_rfl) (fun _ _ _ h => h) (by rfl) ‹_› ?_
            try simp only [y12, Act.put, s1, s2, s3]
            refine tkY (i := 13) (oi := y13) (v := ?_) rfl (by kernel_rfl) (fun _ _ _ h => h) (by rfl) ?_ ‹_› ?_; rotate_left
            · intro wq hSw; simp only [y13]; (try dsimp only at hSw); go_simp; (try with_reducible rfl)
            try simp only [y13, Act.put, s1, s2, s3]
            refine tkY (i := 14) (oi := y14) (v := ?_) rfl (by kernel_rfl) (fun _ _ _ h => h) (by rfl) ?_ ‹_› ?_; rotate_left
            · intro wq hSw; simp only [y14]; (try dsimp only at hSw); go_simp; (try with_reducible rfl)
            try simp only [y14, Act.put, s1, s2, s3]
            refine tkY (i := 15) (oi := y15) (v := ?_) rfl (by kernel_rfl) (fun _ _ _ h => h) (by rfl) ?_ ‹_› ?_; rotate_left
            · intro wq hSw; simp only [y15]; (try dsimp only at hSw); go_simp; (try with_reducible rfl)
            try simp only [y15, Act.put, s1, s2, s3]
            refine tkY (i := 16) (oi := y16) (v := ?_) rfl (by kernel_rfl) (fun _ _ _ h => h) (by rfl) ?_ ‹_› ?_; rotate_left
            · intro wq hSw; simp only [y16]; (try dsimp only at hSw); go_simp; (try with_reducible rfl)
            try simp only [y16, Act.put, s1, s2, s3]
            refine tkY (i := 17) (oi := y17) (v := ?_) rfl (by kernel_rfl) (fun _ _ _ h => h) (by rfl) ?_ ‹_› ?_; rotate_left
            · intro wq hSw; simp only [y17]; (try dsimp only at hSw); go_simp; (try with_reducible rfl)
            try simp only [y17, Act.put, s1, s2, s3]
            refine tkY (i := 18) (oi := y18) (v := ?_) rfl (by kernel_rfl) (fun _ _ _ h => h) (by rfl) ?_ ‹_› ?_; rotate_left
            · intro wq hSw; simp only [y18]; (try dsimp only at hSw); go_simp; (try with_reducible rfl)
            try simp only [y18, Act.put, s1, s2, s3]
            refine tkY (i := 19) (oi := y19) (v := ?_) rfl (by kernel_rfl) (fun _ _ _ h => h) (by rfl) ?_ ‹_› ?_; rotate_left
            · intro wq hSw; simp only [y19]; (try dsimp only at hSw); go_simp; (try with_reducible rfl)
            try simp only [y19, Act.put, s1, s2, s3]
            refine tkY (i := 20) (oi := y20) (v := ?_) rfl (by kernel_rfl) (fun _ _ _ h => h) (by rfl) ?_ ‹_› ?_; rotate_left
            · intro wq hSw; simp only [y20]; (try dsimp only at hSw); go_simp; (try with_reducible rfl)
            try simp only [y20, Act.put, s1, s2, s3]
            refine tkY (i := 21) (oi := y21) (v := ?_) rfl (by kernel_rfl) (fun _ _ _ h => h) (by rfl) ?_ ‹_› ?_; rotate_left
            · intro wq hSw; simp only [y21]; (try dsimp only at hSw); go_simp; (try with_reducible rfl)
            try simp only [y21, Act.put, s1, s2, s3]
            refine tkN (i := 22) (oi := y22) rfl (by kernel_rfl) (fun _ _ _ h => h) (by rfl) ‹_› ?_
            try simp only [y22, Act.put, s1, s2, s3]
            refine tkN (i := 23) (oi := y23) rfl (by kernel_rfl) (fun _ _ _ h => h) (by rfl) ‹_› ?_
            try simp only [y23, Act.put, s1, s2, s3]
            refine tkN (i := 24) (oi := y24) rfl (by kernel_rfl) (fun _ _ _ h => h) (by rfl) ‹_› ?_
            try simp only [y24, Act.put, s1, s2, s3]
            refine tkN (i := 25) (oi := y25) rfl (by kernel_rfl) (fun _ _ _ h => h) (by rfl) ‹_› ?_
            try simp only [y25, Act.put, s1, s2, s3]
            refine tkN (i := 26) (oi := y26) rfl (by kernel_rfl) (fun _ _ _ h => h) (by rfl) ‹_› ?_
            try simp only [y26, Act.put, s1, s2, s3]
            refine tkN (i := 27) (oi := y27) rfl (by kernel_rfl) (fun _ _ _ h => h) (by rfl) ‹_› ?_
            try simp only [y27, Act.put, s1, s2, s3]
            refine tkN (i := 28) (oi := y28) rfl (by kernel_rfl) (fun _ _ _ h => h) (by rfl) ‹_› ?_
            try simp only [y28, Act.put, s1, s2, s3]
            refine tkN (i := 29) (oi := y29) rfl (by kernel_rfl) (fun _ _ _ h => h) (by rfl) ‹_› ?_
            try simp only [y29, Act.put, s1, s2, s3]
            refine tkN (i := 30) (oi := y30) rfl (by kernel_rfl) (fun _ _ _ h => h) (by rfl) ‹_› ?_
            try simp only [y30, Act.put, s1, s2, s3]
            refine tkN (i := 31) (oi := y31) rfl (by kernel_rfl) (fun _ _ _ h => h) (by rfl) ‹_› ?_
            try simp only [y31, Act.put, s1, s2, s3]
            refine tkN (i := 32) (oi := y32) rfl (by kernel_rfl) (fun _ _ _ h => h) (by rfl) ‹_› ?_
            try simp only [y32, Act.put, s1, s2, s3]
            refine tkN (i := 33) (oi := y33) rfl (by kernel_rfl) (fun _ _ _ h => h) (by rfl) ‹_› ?_
            try simp only [y33, Act.put, s1, s2, s3]
            refine tkY (i := 34) (oi := y34) (v := ?_) rfl (by kernel_rfl) (fun _ _ _ h => h) (by rfl) ?_ ‹_› ?_; rotate_left
            · intro wq hSw; simp only [y34]; (try dsimp only at hSw); go_simp; (try with_reducible rfl)
            try simp only [y34, Act.put, s1, s2, s3]
            refine tkY (i := 35) (oi := y35) (v := ?_) rfl (by kernel_rfl) (fun _ _ _ h => h) (by rfl) ?_ ‹_› ?_; rotate_left
            · intro wq hSw; simp only [y35]; (try dsimp only at hSw); go_simp; (try with_reducible rfl)
            try simp only [y35, Act.put, s1, s2, s3]
            refine wpAnyH_done (by kernel_rfl) ?_ _
            refine onlyN_normal ?_
            gi_wp2_with fail
            gi_meet
            exact ⟨rfl, by (repeat' (first | with_reducible exact Below.refl _ _ | with_reducible assumption | with_reducible refine Below.drew ?_ | with_reducible refine below_drewN ?_ _ | with_reducible refine Below.setCell ?_ ?_ _ | with_reducible refine Below.alloc ?_ ?_ _ | omega | (simp; done) | (simp; omega)))⟩
      case rest =>
        as_aux_lemma =>
          obtain ⟨rfl, hdn⟩ := hcut
          obtain ⟨Wn, rfl⟩ : ∃ x : World, x = wc := ⟨_, rfl⟩
          clear i4

          have RFn := Lib.hid (RF8.out.below rfl hdn)
          have hwn : Below w.heap.size w Wn := hw8.trans (hdn.mono hw8.size)
          have znW := hdn.size
          have KD0n : Hid (Wn.heap[D0]? = _) := (hdn.block _ (Array.getElem?_eq_some_iff.1 KD0c.out).1).trans KD0c.out
          have KD1n : Hid (Wn.heap[D1]? = _) := (hdn.block _ (Array.getElem?_eq_some_iff.1 KD1c.out).1).trans KD1c.out
          clear RF8 IB8 hw8 hdn KD0c KD1c
          have cRB := cellH (Lib.hid RFn.out.rb)
          have cQB := cellH (Lib.hid RFn.out.qb)
          have cPB := cellH (Lib.hid RFn.out.pl.bx.2)
          gi_wp2_with fail
          have hzD0 : zB ≤ D0 := by omega

          first | refine wide_open ?_ | refine wide_open2 ?_
          refine (RFn.out.pl.pr.st.noteOne HONE.out).mono ?_
          rintro e wa ⟨⟨ev, rfl⟩, v, sa, ka⟩
          have LF := Lib.hid (RFn.out.pl.pr.left sa ka)
          have HBa := Lib.hid (RFn.out.pl.pr.st.keepB ka (by simp))
          have SA := Lib.hid sa
          have KA := Lib.hid ka
          have fz := HFK.out zB (.inr (Nat.le_refl _))
          have cqa : Hid (wa.heap[zB]? = some (.cells #[.pointer (some ⟨pb, 0, none⟩)] 56 (0, 0))) := (ka.block _ (Array.getElem?_eq_some_iff.1 RFn.out.qb).1 fz.1 fz.2.1 fz.2.2.1 fz.2.2.2.1 (by simp)).trans RFn.out.qb
          have cpa : Hid (wa.heap[pb]? = some (PlayB L r rv)) := (ka.box RFn.out.pl.bx (by simp)).2
          have cQB := cellH cqa
          have cPB := cellH cpa
          clear sa ka fz cRB
          gi_wp2_with fail
          first | refine wide_open ?_ | refine wide_open2 ?_
          refine (LF.out.1.noteOne HONE.out SA.out.hb).mono ?_
          rintro e wb ⟨⟨ev2, rfl⟩, vrb, rb2, kb⟩
          have PR := Lib.hid (Pr.right SA.out LF.out.1 LF.out.2 rb2 kb)
          have lrb := (Array.getElem?_eq_some_iff.1 RFn.out.qb).1
          have hrbz : zB ≤ rb1 := hrbz0
          have RFb := Lib.hid (RFn.out.noted KA.out kb PR.out (HFK.out sS (.inl (by omega))) (HFK.out (sS + 1) (.inl lR1)) (HFK.out zB (.inr (Nat.le_refl _))) (HFK.out Bx (.inr hBx2)) (HFK.out rb1 (.inr hrbz)))
          have HBb : Below b wa wb := kb.below LF.out.1.hr LF.out.1.hr LF.out.1.hr (fun k e => (LF.out.1.own.lt k e).1) (by simp) SA.out.hb
          have hwb : Below w.heap.size w wb := hwn.trans ((HBa.out.trans HBb).mono (by have := HSS.out; omega))
          have KN : ∀ k x, zB ≤ k → Wn.heap[k]? = some x → wb.heap[k]? = some x := fun k x hk e => by
            have f := HFK.out k (.inr hk)
            have hl := (Array.getElem?_eq_some_iff.1 e).1
            exact ((kb.block _ (Nat.lt_of_lt_of_le hl KA.out.size) f.2.2.2.2.1 f.2.2.2.2.1 f.2.2.2.2.1 f.2.2.2.2.2 (by simp)).trans (KA.out.block _ hl f.1 f.2.1 f.2.2.1 f.2.2.2.1 (by simp))).trans e
          have KD0b := Lib.hid (KN _ _ hzD0 KD0n.out)
          have KD1b := Lib.hid (KN _ _ (by omega) KD1n.out)
          clear KN HBb rb2 kb PR LF SA KA HBa cqa cpa cQB cPB HFK HONE RFn hwn KD0n KD1n hN2
          generalize moreN N = N at RFb
          have hN2 : N.length ≤ 200 := RFb.out.pl.pr.rl.len
          have cRB := cellH (Lib.hid RFb.out.rb)
          gi_wp2_with fail
          have zn9 := hwb.size
          have zn8 := (Array.getElem?_eq_some_iff.1 RFb.out.qb).1
          have HRF2 : Hid (RF b E m L P U r pb rv _ _ N um sS zB Bx wb.heap.size stop 2 (wb.alloc (.cells #[.int .i64 2] 3))) := RFb.out.round (by (repeat' (first | with_reducible exact Below.refl _ _ | with_reducible assumption | with_reducible refine Below.drew ?_ | with_reducible refine below_drewN ?_ _ | with_reducible refine Below.setCell ?_ ?_ _ | with_reducible refine Below.alloc ?_ ?_ _ | omega | (simp; done) | (simp; omega)))) (blk_new rfl)
          have hw62 : Below w.heap.size w (wb.alloc (.cells #[.int .i64 2] 3)) := by (repeat' (first | with_reducible exact Below.refl _ _ | with_reducible assumption | with_reducible refine Below.drew ?_ | with_reducible refine below_drewN ?_ _ | with_reducible refine Below.setCell ?_ ?_ _ | with_reducible refine Below.alloc ?_ ?_ _ | omega | (simp; done) | (simp; omega)))
          have hu62 : wb.heap.size < (wb.alloc (.cells #[.int .i64 2] 3)).heap.size := by simp
          have hqb2 : zB < (wb.alloc (.cells #[.int .i64 2] 3)).heap.size := by omega
          replace KD0 := Lib.hid (blk_old (o := (.cells #[.int .i64 2] 3)) KD0b.out)
          have KD1 := Lib.hid (blk_old (o := (.cells #[.int .i64 2] 3)) KD1b.out)
          have hrbz0 : zB ≤ wb.heap.size := Nat.le_of_lt zn8
          obtain ⟨rb2, hrb⟩ : ∃ x, wb.heap.size = x := ⟨_, rfl⟩
          clear RFb hwb cRB
          generalize (wb.alloc (.cells #[.int .i64 2] 3)) = w62 at HRF2 hw62 hu62 hqb2 KD0 KD1 ⊢
          rw [hrb] at HRF2 hu62 hrbz0 ⊢
          clear hrb
          have cRB := cellH (Lib.hid HRF2.out.rb)
          rw [roundsIn_succ]
          gi_wp2_with fail
          obtain ⟨A5, c5, hv5, hc5, hm5, _⟩ := Own.rows (fun x _ => encN_len x) HRF2.out.pl.pr.rl.own
          subst hv5
          have IB7 : Hid ((w62.alloc (.cells #[.int .i64 0] 3)).heap[w62.heap.size]? = some (.cells #[.int .i64 0] 3 (0, 0))) := blk_new rfl
          have h67 : Below w62.heap.size w62 (w62.alloc (.cells #[.int .i64 0] 3)) := by (repeat' (first | with_reducible exact Below.refl _ _ | with_reducible assumption | with_reducible refine Below.drew ?_ | with_reducible refine below_drewN ?_ _ | with_reducible refine Below.setCell ?_ ?_ _ | with_reducible refine Below.alloc ?_ ?_ _ | omega | (simp; done) | (simp; omega)))
          have hu7 : w62.heap.size < (w62.alloc (.cells #[.int .i64 0] 3)).heap.size := by simp
          have BX7 : Hid ((w62.alloc (.cells #[.int .i64 0] 3)).heap[Bx]? = some (.cells #[.pointer (some ⟨L, 0, none⟩)] 24 (0, 0))) := blk_old HRF2.out.bx
          have lBx : Bx < w62.heap.size := (Array.getElem?_eq_some_iff.1 HRF2.out.bx).1
          have LD7 := Lib.hid (HRF2.out.pl.pr.st.led.below h67)
          have zw6 := hw62.size
          have lD0 := (Array.getElem?_eq_some_iff.1 KD0.out).1
          have lD1 := (Array.getElem?_eq_some_iff.1 KD1.out).1
          obtain ⟨ib, hib⟩ : ∃ ib, w62.heap.size = ib := ⟨_, rfl⟩
          have HIB := Lib.hid hib
          generalize (w62.alloc (.cells #[.int .i64 0] 3)) = w7 at IB7 h67 hu7 BX7 LD7 ⊢
          rw [hib] at IB7 h67 hu7 lBx hu62 hqb2 zw6 lD0 lD1 ⊢
          clear hib cRB
          generalize ha : Act.mk _ _ = a0
          refine wpIn_rangeFunc_ownH rfl (by decide) (gf := 43) (lb := #[.pointer (some ⟨Bx, 0, none⟩)]) (by rw [← ha]; rfl) trivial (enters_of Tryd.func43 (by kernel_rfl) rfl)
            (each1_stops b L P U um v N (3 - 1) Bx ib lBx w7 (Nat.le_of_lt hu7) BX7 LD7.out)
            KeepC.trans (fun W l o o' hl h q1 q2 => keepC_b (m := ib) (h0 := w7.heap.size) (w := w7) (Nat.le_of_lt hu7) W l o o' hl h q1 q2) (Below.refl _ _) (fun x => rfl)
            (EaI N (fun _ => True) ib w7) (EaX N ib w7 (-1)) (EaI_own (Nat.le_of_lt hu7) (Nat.le_refl _)) (fun c => EaX_own c (Nat.le_of_lt hu7) (Nat.le_refl _)) ⟨IB7.out, Below.refl _ _, rfl, trivial⟩
            (fun x a' W => ∃ Bp, w7.heap.size ≤ Bp ∧ W.heap[Bp]? = some (.cells #[.string x.1.1, .int .i64 x.1.2] 39 (0, 0)) ∧ a' = { tmps := (((a0.tmps.setIfInBounds 37 (.int .i64 x.2)).setIfInBounds 38 (.agg #[.string x.1.1, .int .i64 x.1.2])).setIfInBounds 11 (.int .i64 x.2)).setIfInBounds 12 (.pointer (some ⟨Bp, 0, none⟩)), defers := [] })
            (fun x a' s W W' row hs hg hr => by obtain ⟨Bp, h2, h3, h4⟩ := hs; exact ⟨Bp, h2, ownBlk h3 hg hr, h4⟩) ?assign2 ?body2 ?done2 ?stop2
          case assign2 =>
            intro l9 pre x W K hI hK
            obtain ⟨i1, i2, i3, i4⟩ := hI
            have zz := i2.size
            subst ha
            simp only [encE]
            gi_wp2_with fail
            have h9 := hK _ _ ((KeepsOthers.alloc W (.cells #[.string x.1.1, .int .i64 x.1.2] 39)).from _) (KeepC.ofBelow ((Below.refl _ _).alloc (Nat.le_refl _) _) (by omega)) ⟨blk_old i1, i2.alloc (by omega) _, i3, i4⟩ ⟨_, zz, blk_new rfl, rfl⟩
            simp only [List.setIfInBounds_toArray, List.set_cons_zero, List.set_cons_succ] at h9
            exact h9
          case body2 =>
            as_aux_lemma =>
            rintro l9 pre ⟨⟨xs, xv⟩, xi⟩ a' wq hl9 ⟨rr, hrr⟩ ⟨i1, i2, i3, i4⟩ ⟨Bp, p2, p3, rfl⟩ hlt
            have zq9 := i2.size
            rw [List.length_zipIdx] at hlt
            subst ha
            try simp only [List.setIfInBounds_toArray, List.set_cons_zero, List.set_cons_succ]
            have hB6 : Below ib w62 wq := h67.trans i2
            have RF8 := Lib.hid (HRF2.out.below HIB.out hB6)
            have IB8 : Hid (wq.heap[ib]? = some (.cells #[.int .i64 pre.length] 3 (0, 0))) := i1
            have P8 : Hid (wq.heap[Bp]? = some (.cells #[.string xs, .int .i64 xv] 39 (0, 0))) := p3
            obtain ⟨⟨ps, pv⟩, hp⟩ : ∃ p, N[pre.length]? = some p := ⟨N[pre.length], List.getElem?_eq_getElem hlt⟩
            have HP : Hid (N.zipIdx[pre.length]? = some ((ps, pv), pre.length)) := by show _ = _; rw [List.getElem?_zipIdx, hp]; simp
            obtain ⟨g, off, hA5, hg, hcc⟩ := RF8.out.pl.pr.rl.row pre.length (ps, pv) hp
            subst hA5
            have HI2 := Lib.hid i2
            have HI3 := Lib.hid i3
            have HI4 := Lib.hid i4
            have xI : wq.cell? ⟨ib, 0, none⟩ = some (.int .i64 pre.length) := cellH IB8 0
            have xQ : wq.cell? ⟨zB, 0, none⟩ = some (.pointer (some ⟨pb, 0, none⟩)) := cellH (Lib.hid RF8.out.qb) 0
            have xP : wq.cell? ⟨pb, 2, none⟩ = some (.pointer (some ⟨r, 0, none⟩)) := RF8.out.pl.bx.cell 2
            have xR : wq.cell? ⟨r, 0, none⟩ = some (.slice (some ⟨g, off, none⟩) N.length c5) := cellH (Lib.hid RF8.out.pl.pr.rl.box) 0
            have xB0 : wq.cell? ⟨Bp, 0, none⟩ = some (.string xs) := cellH P8 0
            have xB1 : wq.cell? ⟨Bp, 1, none⟩ = some (.int .i64 xv) := cellH P8 1
            have j0 : wq.cell? ⟨g, off + pre.length * 2, none⟩ = some (.string ps) := hcc 0 _ rfl
            have j1 : wq.cell? ⟨g, off + pre.length * 2 + 1, none⟩ = some (.int .i64 pv) := hcc 1 _ rfl
            have hlt2 : (pre.length : Int) < (N.length : Int) := by omega
            have k2 : (0 : Int) ≤ (pre.length : Int) := by omega
            have k6 : ((pre.length : Int)).toNat = pre.length := by omega
            have hge : decide (N.length ≤ pre.length) = false := decide_eq_false (by omega)
            have hrbl := (Array.getElem?_eq_some_iff.1 HRF2.out.rb).1
            rw [HIB.out] at hrbl
            clear hp i1 i2 i3 i4 p3 hcc hB6
            gi_upto_region 15 with fail
            have HCL : Hid (∀ k ∈ [sS + 1], ∃ cs t z, wq.heap[k]? = some (.cells cs t z)) := by
              intro k hk
              rw [List.mem_singleton.1 hk]
              exact ⟨_, _, _, RF8.out.rs⟩
            have HCI : Hid (∀ k ∈ [ib], ∃ cs t z, wq.heap[k]? = some (.cells cs t z)) := by
              intro k hk
              rw [List.mem_singleton.1 hk]
              exact ⟨_, _, _, IB8.out⟩
            by_cases hxi : xi = pre.length
            · subst hxi
              have e0 : ((pre.length : Int) != (pre.length : Int)) = false := bne_self_eq_false _
              by_cases hxs : xs = ps
              · have e1 : (xs.toList != ps.toList) = false := by rw [hxs]; exact bne_self_eq_false _
                have e1b : (xs.toList == ps.toList) = true := by rw [hxs]; exact beq_self_eq_true _
                have HXS := Lib.hid hxs
                clear hxs
                obtain ⟨bv, hb9⟩ : ∃ b, (xv != pv) = b := ⟨_, rfl⟩
                have hbv := Lib.hid hb9
                refine round_held_drew (S := fun w' => w'.cell? ⟨ib, 0, none⟩ = some (.int .i64 pre.length) ∧ w'.cell? ⟨zB, 0, none⟩ = some (.pointer (some ⟨pb, 0, none⟩)) ∧ w'.cell? ⟨pb, 2, none⟩ = some (.pointer (some ⟨r, 0, none⟩)) ∧ w'.cell? ⟨r, 0, none⟩ = some (.slice (some ⟨g, off, none⟩) N.length c5) ∧ w'.cell? ⟨Bp, 0, none⟩ = some (.string xs) ∧ w'.cell? ⟨Bp, 1, none⟩ = some (.int .i64 xv) ∧ w'.cell? ⟨g, off + pre.length * 2, none⟩ = some (.string ps) ∧ w'.cell? ⟨g, off + pre.length * 2 + 1, none⟩ = some (.int .i64 pv)) (by kernel_rfl) (by kernel_rfl) ?_ (fun hH0 => ?_)
                · exact ⟨xI, xQ, xP, xR, xB0, xB1, j0, j1⟩
                refine tkY (i := 0) (oi := q0) (v := ?_) rfl (by kernel_rfl) (fun _ _ _ h => h) (by rfl) ?_ ‹_› ?_; rotate_left
                · intro wq hSw; simp only [q0]; (try dsimp only at hSw); go_simp; (try with_reducible rfl)
                try simp only [q0, Act.put, s1, s2, s3]
                refine tkY (i := 1) (oi := q1) (v := ?_) rfl (by kernel_rfl) (fun _ _ _ h => h) (by rfl) ?_ ‹_› ?_; rotate_left
                · intro wq hSw; simp only [q1]; (try dsimp only at hSw); go_simp; (try with_reducible rfl)
                try simp only [q1, Act.put, s1, s2, s3]
                refine tkY (i := 2) (oi := q2) (v := ?_) rfl (by kernel_rfl) (fun _ _ _ h => h) (by rfl) ?_ ‹_› ?_; rotate_left
                · intro wq hSw; simp only [q2]; (try dsimp only at hSw); go_simp; (try with_reducible rfl)
                try simp only [q2, Act.put, s1, s2, s3]
                refine tkY (i := 3) (oi := q3) (v := ?_) rfl (by kernel_rfl) (fun _ _ _ h => h) (by rfl) ?_ ‹_› ?_; rotate_left
                · intro wq hSw; simp only [q3]; (try dsimp only at hSw); go_simp; (try with_reducible rfl)
                try simp only [q3, Act.put, s1, s2, s3]
                refine tkY (i := 4) (oi := q4) (v := ?_) rfl (by kernel_rfl) (fun _ _ _ h => h) (by rfl) ?_ ‹_› ?_; rotate_left
                · intro wq hSw; simp only [q4]; (try dsimp only at hSw); go_simp; (try with_reducible rfl)
                try simp only [q4, Act.put, s1, s2, s3]
                refine tkY (i := 5) (oi := q5) (v := ?_) rfl (by kernel_rfl) (fun _ _ _ h => h) (by rfl) ?_ ‹_› ?_; rotate_left
                · intro wq hSw; simp only [q5]; (try dsimp only at hSw); go_simp; (try with_reducible rfl)
                try simp only [q5, Act.put, s1, s2, s3]
                refine tkY (i := 6) (oi := q6) (v := ?_) rfl (by kernel_rfl) (fun _ _ _ h => h) (by rfl) ?_ ‹_› ?_; rotate_left
                · intro wq hSw; simp only [q6]; (try dsimp only at hSw); go_simp; (try with_reducible rfl)
                try simp only [q6, Act.put, s1, s2, s3]
                refine tkY (i := 7) (oi := q7) (v := ?_) rfl (by kernel_rfl) (fun _ _ _ h => h) (by rfl) ?_ ‹_› ?_; rotate_left
                · intro wq hSw; simp only [q7]; (try dsimp only at hSw); go_simp; (try with_reducible rfl)
                try simp only [q7, Act.put, s1, s2, s3]
                refine tkY (i := 8) (oi := q8) (v := ?_) rfl (by kernel_rfl) (fun _ _ _ h => h) (by rfl) ?_ ‹_› ?_; rotate_left
                · intro wq hSw; simp only [q8]; (try dsimp only at hSw); go_simp; (try with_reducible rfl)
                try simp only [q8, Act.put, s1, s2, s3]
                refine tkY (i := 9) (oi := q9) (v := ?_) rfl (by kernel_rfl) (fun _ _ _ h => h) (by rfl) ?_ ‹_› ?_; rotate_left
                · intro wq hSw; simp only [q9]; (try dsimp only at hSw); go_simp; (try with_reducible rfl)
                try simp only [q9, Act.put, s1, s2, s3]
                refine tkY (i := 10) (oi := q10) (v := ?_) rfl (by kernel_rfl) (fun _ _ _ h => h) (by rfl) ?_ ‹_› ?_; rotate_left
                · intro wq hSw; simp only [q10]; (try dsimp only at hSw); go_simp; (try with_reducible rfl)
                try simp only [q10, Act.put, s1, s2, s3]
                refine tkY (i := 11) (oi := q11) (v := ?_) rfl (by kernel_rfl) (fun _ _ _ h => h) (by rfl) ?_ ‹_› ?_; rotate_left
                · intro wq hSw; simp only [q11]; (try dsimp only at hSw); go_simp; (try with_reducible rfl)
                try simp only [q11, Act.put, s1, s2, s3]
                refine tkY (i := 12) (oi := q12) (v := ?_) rfl (by kernel_rfl) (fun _ _ _ h => h) (by rfl) ?_ ‹_› ?_; rotate_left
                · intro wq hSw; simp only [q12]; (try dsimp only at hSw); go_simp; (try with_reducible rfl)
                try simp only [q12, Act.put, s1, s2, s3]
                refine tkY (i := 13) (oi := q13) (v := ?_) rfl (by kernel_rfl) (fun _ _ _ h => h) (by rfl) ?_ ‹_› ?_; rotate_left
                · intro wq hSw; simp only [q13]; (try dsimp only at hSw); go_simp; (try with_reducible rfl)
                try simp only [q13, Act.put, s1, s2, s3]
                refine tkY (i := 14) (oi := q14) (v := ?_) rfl (by kernel_rfl) (fun _ _ _ h => h) (by rfl) ?_ ‹_› ?_; rotate_left
                · intro wq hSw; simp only [q14]; (try dsimp only at hSw); go_simp; (try with_reducible rfl)
                try simp only [q14, Act.put, s1, s2, s3]
                refine tkY (i := 15) (oi := q15) (v := ?_) rfl (by kernel_rfl) (fun _ _ _ h => h) (by rfl) ?_ ‹_› ?_; rotate_left
                · intro wq hSw; simp only [q15]; (try dsimp only at hSw); go_simp; (try with_reducible rfl)
                try simp only [q15, Act.put, s1, s2, s3]
                refine tkY (i := 16) (oi := q16) (v := ?_) rfl (by kernel_rfl) (fun _ _ _ h => h) (by rfl) ?_ ‹_› ?_; rotate_left
                · intro wq hSw; simp only [q16]; (try dsimp only at hSw); go_simp; (try with_reducible rfl)
                try simp only [q16, Act.put, s1, s2, s3]
                refine tkY (i := 17) (oi := q17) (v := ?_) rfl (by kernel_rfl) (fun _ _ _ h => h) (by rfl) ?_ ‹_› ?_; rotate_left
                · intro wq hSw; simp only [q17]; (try dsimp only at hSw); go_simp; (try with_reducible rfl)
                try simp only [q17, Act.put, s1, s2, s3]
                refine tkY (i := 18) (oi := q18) (v := ?_) rfl (by kernel_rfl) (fun _ _ _ h => h) (by rfl) ?_ ‹_› ?_; rotate_left
                · intro wq hSw; simp only [q18]; (try dsimp only at hSw); go_simp; (try with_reducible rfl)
                try simp only [q18, Act.put, s1, s2, s3]
                refine tkY (i := 19) (oi := q19) (v := ?_) rfl (by kernel_rfl) (fun _ _ _ h => h) (by rfl) ?_ ‹_› ?_; rotate_left
                · intro wq hSw; simp only [q19]; (try dsimp only at hSw); go_simp; (try with_reducible rfl)
                try simp only [q19, Act.put, s1, s2, s3]
                refine tkY (i := 20) (oi := q20) (v := ?_) rfl (by kernel_rfl) (fun _ _ _ h => h) (by rfl) ?_ ‹_› ?_; rotate_left
                · intro wq hSw; simp only [q20]; (try dsimp only at hSw); go_simp; (try with_reducible rfl)
                try simp only [q20, Act.put, s1, s2, s3]
                refine tkY (i := 21) (oi := q21) (v := ?_) rfl (by kernel_rfl) (fun _ _ _ h => h) (by rfl) ?_ ‹_› ?_; rotate_left
                · intro wq hSw; simp only [q21]; (try dsimp only at hSw); go_simp; (try with_reducible rfl)
                try simp only [q21, Act.put, s1, s2, s3]
                refine tkY (i := 22) (oi := q22) (v := ?_) rfl (by kernel_rfl) (fun _ _ _ h => h) (by rfl) ?_ ‹_› ?_; rotate_left
                · intro wq hSw; simp only [q22]; (try dsimp only at hSw); go_simp; (try with_reducible rfl)
                try simp only [q22, Act.put, s1, s2, s3]
                refine tkY (i := 23) (oi := q23) (v := ?_) rfl (by kernel_rfl) (fun _ _ _ h => h) (by rfl) ?_ ‹_› ?_; rotate_left
                · intro wq hSw; simp only [q23]; (try dsimp only at hSw); go_simp; (try with_reducible rfl)
                try simp only [q23, Act.put, s1, s2, s3]
                refine tkY (i := 24) (oi := q24) (v := ?_) rfl (by kernel_rfl) (fun _ _ _ h => h) (by rfl) ?_ ‹_› ?_; rotate_left
                · intro wq hSw; simp only [q24]; (try dsimp only at hSw); go_simp; (try with_reducible rfl)
                try simp only [q24, Act.put, s1, s2, s3]
                refine tkY (i := 25) (oi := q25) (v := ?_) rfl (by kernel_rfl) (fun _ _ _ h => h) (by rfl) ?_ ‹_› ?_; rotate_left
                · intro wq hSw; simp only [q25]; (try dsimp only at hSw); go_simp; (try with_reducible rfl)
                try simp only [q25, Act.put, s1, s2, s3]
                refine tkY (i := 26) (oi := q26) (v := ?_) rfl (by kernel_rfl) (fun _ _ _ h => h) (by rfl) ?_ ‹_› ?_; rotate_left
                · intro wq hSw; simp only [q26]; (try dsimp only at hSw); go_simp; (try with_reducible rfl)
                try simp only [q26, Act.put, s1, s2, s3]
                refine tkY (i := 27) (oi := q27) (v := ?_) rfl (by kernel_rfl) (fun _ _ _ h => h) (by rfl) ?_ ‹_› ?_; rotate_left
                · intro wq hSw; simp only [q27]; (try dsimp only at hSw); go_simp; (try with_reducible rfl)
                try simp only [q27, Act.put, s1, s2, s3]
                refine tkY (i := 28) (oi := q28) (v := ?_) rfl (by kernel_rfl) (fun _ _ _ h => h) (by rfl) ?_ ‹_› ?_; rotate_left
                · intro wq hSw; simp only [q28]; (try dsimp only at hSw); go_simp; (try with_reducible rfl)
                try simp only [q28, Act.put, s1, s2, s3]
                refine tkY (i := 29) (oi := q29) (v := ?_) rfl (by kernel_rfl) (fun _ _ _ h => h) (by rfl) ?_ ‹_› ?_; rotate_left
                · intro wq hSw; simp only [q29]; (try dsimp only at hSw); go_simp; (try with_reducible rfl)
                try simp only [q29, Act.put, s1, s2, s3]
                refine tkY (i := 30) (oi := q30) (v := ?_) rfl (by kernel_rfl) (fun _ _ _ h => h) (by rfl) ?_ ‹_› ?_; rotate_left
                · intro wq hSw; simp only [q30]; (try dsimp only at hSw); go_simp; (try with_reducible rfl)
                try simp only [q30, Act.put, s1, s2, s3]
                refine tkY (i := 31) (oi := q31) (v := ?_) rfl (by kernel_rfl) (fun _ _ _ h => h) (by rfl) ?_ ‹_› ?_; rotate_left
                · intro wq hSw; simp only [q31]; (try dsimp only at hSw); go_simp; (try with_reducible rfl)
                try simp only [q31, Act.put, s1, s2, s3]
                refine tkY (i := 32) (oi := q32) (v := ?_) rfl (by kernel_rfl) (fun _ _ _ h => h) (by rfl) ?_ ‹_› ?_; rotate_left
                · intro wq hSw; simp only [q32]; (try dsimp only at hSw); go_simp; (try with_reducible rfl)
                try simp only [q32, Act.put, s1, s2, s3]
                refine tkY (i := 33) (oi := q33) (v := ?_) rfl (by kernel_rfl) (fun _ _ _ h => h) (by rfl) ?_ ‹_› ?_; rotate_left
                · intro wq hSw; simp only [q33]; (try dsimp only at hSw); go_simp; (try with_reducible rfl)
                try simp only [q33, Act.put, s1, s2, s3]
                refine tkY (i := 34) (oi := q34) (v := ?_) rfl (by kernel_rfl) (fun _ _ _ h => h) (by rfl) ?_ ‹_› ?_; rotate_left
                · intro wq hSw; simp only [q34]; (try dsimp only at hSw); go_simp; (try with_reducible rfl)
                try simp only [q34, Act.put, s1, s2, s3]
                refine tkY (i := 35) (oi := q35) (v := ?_) rfl (by kernel_rfl) (fun _ _ _ h => h) (by rfl) ?_ ‹_› ?_; rotate_left
                · intro wq hSw; simp only [q35]; (try dsimp only at hSw); go_simp; (try with_reducible rfl)
                try simp only [q35, Act.put, s1, s2, s3]
                refine tkY (i := 36) (oi := q36) (v := ?_) rfl (by kernel_rfl) (fun _ _ _ h => h) (by rfl) ?_ ‹_› ?_; rotate_left
                · intro wq hSw; simp only [q36]; (try dsimp only at hSw); go_simp; (try with_reducible rfl)
                try simp only [q36, Act.put, s1, s2, s3]
                refine tkY (i := 37) (oi := q37) (v := ?_) rfl (by kernel_rfl) (fun _ _ _ h => h) (by rfl) ?_ ‹_› ?_; rotate_left
                · intro wq hSw; simp only [q37]; (try dsimp only at hSw); go_simp; (try with_reducible rfl)
                try simp only [q37, Act.put, s1, s2, s3]
                refine tkY (i := 38) (oi := q38) (v := ?_) rfl (by kernel_rfl) (fun _ _ _ h => h) (by rfl) ?_ ‹_› ?_; rotate_left
                · intro wq hSw; simp only [q38]; (try dsimp only at hSw); go_simp; (try with_reducible rfl)
                try simp only [q38, Act.put, s1, s2, s3]
                refine tkY (i := 39) (oi := q39) (v := ?_) rfl (by kernel_rfl) (fun _ _ _ h => h) (by rfl) ?_ ‹_› ?_; rotate_left
                · intro wq hSw; simp only [q39]; (try dsimp only at hSw); go_simp; (try with_reducible rfl)
                try simp only [q39, Act.put, s1, s2, s3]
                refine tkY (i := 40) (oi := q40) (v := ?_) rfl (by kernel_rfl) (fun _ _ _ h => h) (by rfl) ?_ ‹_› ?_; rotate_left
                · intro wq hSw; simp only [q40]; (try dsimp only at hSw); go_simp; (try with_reducible rfl)
                try simp only [q40, Act.put, s1, s2, s3]
                refine tkY (i := 41) (oi := q41) (v := ?_) rfl (by kernel_rfl) (fun _ _ _ h => h) (by rfl) ?_ ‹_› ?_; rotate_left
                · intro wq hSw; simp only [q41]; (try dsimp only at hSw); go_simp; (try with_reducible rfl)
                try simp only [q41, Act.put, s1, s2, s3]
                refine tkY (i := 42) (oi := q42) (v := ?_) rfl (by kernel_rfl) (fun _ _ _ h => h) (by rfl) ?_ ‹_› ?_; rotate_left
                · intro wq hSw; simp only [q42]; (try dsimp only at hSw); go_simp; (try with_reducible rfl)
                try simp only [q42, Act.put, s1, s2, s3]
                refine tkY (i := 43) (oi := q43) (v := ?_) rfl (by kernel_rfl) (fun _ _ _ h => h) (by rfl) ?_ ‹_› ?_; rotate_left
                · intro wq hSw; simp only [q43]; (try dsimp only at hSw); go_simp; (try with_reducible rfl)
                try simp only [q43, Act.put, s1, s2, s3]
                refine tkY (i := 44) (oi := q44) (v := ?_) rfl (by kernel_rfl) (fun _ _ _ h => h) (by rfl) ?_ ‹_› ?_; rotate_left
                · intro wq hSw; simp only [q44]; (try dsimp only at hSw); go_simp; (try with_reducible rfl)
                try simp only [q44, Act.put, s1, s2, s3]
                refine tkY (i := 45) (oi := q45) (v := ?_) rfl (by kernel_rfl) (fun _ _ _ h => h) (by rfl) ?_ ‹_› ?_; rotate_left
                · intro wq hSw; simp only [q45]; (try dsimp only at hSw); go_simp; (try with_reducible rfl)
                try simp only [q45, Act.put, s1, s2, s3]
                refine tkY (i := 46) (oi := q46) (v := ?_) rfl (by kernel_rfl) (fun _ _ _ h => h) (by rfl) ?_ ‹_› ?_; rotate_left
                · intro wq hSw; simp only [q46]; (try dsimp only at hSw); go_simp; (try with_reducible rfl)
                try simp only [q46, Act.put, s1, s2, s3]
                refine wpAnyH_done (by kernel_rfl) ?_ _
                refine noOut_normal ?_
                cases bv
                · have HXV : Hid (xv = pv) := by (show xv = pv); have h2 := hbv.out; simpa using h2
                  try clear hb9
                  have IB9 : Hid (wq.drew.heap[ib]? = some (.cells #[.int .i64 pre.length] 3 (0, 0))) := IB8.out
                  have RF9 : Hid (RF b E m L P U r pb rv v (.slice (some ⟨g, off, none⟩) N.length c5) N um sS zB Bx rb2 stop 2 wq.drew) := RF8.out.below rfl (by (repeat' (first | with_reducible exact Below.refl _ _ | with_reducible assumption | with_reducible refine Below.drew ?_ | with_reducible refine below_drewN ?_ _ | with_reducible refine Below.setCell ?_ ?_ _ | with_reducible refine Below.alloc ?_ ?_ _ | omega | (simp; done) | (simp; omega))))
                  have hoI : OnlyL [ib] wq wq.drew := OnlyL.drew (OnlyL.refl _ _)
                  clear hH0 xI xQ xP xR xB0 xB1 j0 j1
                  generalize wq.drew = w2 at IB9 RF9 hoI ⊢
                  have hoI2 : OnlyL [ib] wq (w2.setCell ⟨ib, 0, none⟩ (.int .i64 ((pre.length : Int) + 1))) := OnlyL.setCell hoI (.inl (List.mem_singleton.2 rfl)) _
                  have HEI : Hid (∀ Q : Nat → Prop, Q (pre.length + 1) → EaI N Q ib w7 (pre ++ [((xs, xv), pre.length)]) (w2.setCell ⟨ib, 0, none⟩ (.int .i64 ((pre.length : Int) + 1)))) := by
                    intro Q hq
                    refine ⟨?_, HI2.out.trans (OnlyL.below hoI2 (by omega) (fun k hk => by rw [List.mem_singleton.1 hk]; exact Nat.le_refl _)), ?_, by rw [List.length_append]; exact hq⟩
                    · rw [show ((pre ++ [((xs, xv), pre.length)]).length : Int) = (pre.length : Int) + 1 by simp]
                      exact setBox IB9.out _
                    · rw [List.length_append, List.length_singleton, take_snoc HP.out, ← HI3.out, HXS.out, HXV.out]
                  have HKF := Lib.hid (OnlyL.from hoI2 w7.heap.size HCI.out)
                  have HKB : Hid (KeepC ib w7.heap.size wq (w2.setCell ⟨ib, 0, none⟩ (.int .i64 ((pre.length : Int) + 1)))) := KeepC.only hoI2 (by omega) (fun k hk => by rw [List.mem_singleton.1 hk]; omega)
                  have cI9 := cellH IB9
                  have fI9 := frozH IB9
                  have lI9 := lt_of_H IB9
                  have cB9 := cellH (Lib.hid RF9.out.rb)
                  have cT9 := cellH (Lib.hid RF9.out.st)
                  have n1 : ib ≠ rb2 := by omega
                  have n2 : ib ≠ sS := by omega
                  have kw : IntKind.i64.wrap ((pre.length : Int) + 1) = (pre.length : Int) + 1 := by rw [IntKind.wrap_i64]; omega
                  have HQ := Lib.hid (HEI.out (fun _ => True) trivial)
                  gi_wp2_with fail
                  exact ⟨HKF.out, HKB.out, HQ.out⟩
                · have HXP : Hid (¬ ((xs, xv), pre.length) = ((ps, pv), pre.length)) := fun h => by (have h2 := hbv.out; rw [bne_iff_ne] at h2; exact h2 (by injection h with h _; injection h))
                  try clear hb9
                  have RF9 := Lib.hid (RF8.out.below rfl (show Below wq.heap.size wq wq.drew by (repeat' (first | with_reducible exact Below.refl _ _ | with_reducible assumption | with_reducible refine Below.drew ?_ | with_reducible refine below_drewN ?_ _ | with_reducible refine Below.setCell ?_ ?_ _ | with_reducible refine Below.alloc ?_ ?_ _ | omega | (simp; done) | (simp; omega)))))
                  have hoW : OnlyL [sS + 1] wq wq.drew := OnlyL.drew (OnlyL.refl _ _)
                  clear hH0 xI xQ xP xR xB0 xB1 j0 j1
                  generalize wq.drew = w2 at RF9 hoW ⊢
                  have cR9 := cellH (Lib.hid RF9.out.rs)
                  have fzR9 := frozH (Lib.hid RF9.out.rs)
                  have lR9 := lt_of_H (Lib.hid RF9.out.rs)
                  gi_wp2_with fail
                  exact ⟨OnlyL.from (L := [sS + 1]) (OnlyL.setCell hoW (.inl (List.mem_singleton.2 rfl)) _) _ HCL.out, .inl (fun h => HXP.out (prefix_nt h HP.out))⟩
              · have e1 : (xs.toList != ps.toList) = true := bytes_ne hxs
                have e1b : (xs.toList == ps.toList) = false := by simpa [bne] using e1
                have HXP : Hid (¬ ((xs, xv), pre.length) = ((ps, pv), pre.length)) := fun h => hxs (by injection h with h _; injection h)
                clear hxs
                refine round_held_drew (S := fun w' => w'.cell? ⟨ib, 0, none⟩ = some (.int .i64 pre.length) ∧ w'.cell? ⟨zB, 0, none⟩ = some (.pointer (some ⟨pb, 0, none⟩)) ∧ w'.cell? ⟨pb, 2, none⟩ = some (.pointer (some ⟨r, 0, none⟩)) ∧ w'.cell? ⟨r, 0, none⟩ = some (.slice (some ⟨g, off, none⟩) N.length c5) ∧ w'.cell? ⟨Bp, 0, none⟩ = some (.string xs) ∧ w'.cell? ⟨Bp, 1, none⟩ = some (.int .i64 xv) ∧ w'.cell? ⟨g, off + pre.length * 2, none⟩ = some (.string ps) ∧ w'.cell? ⟨g, off + pre.length * 2 + 1, none⟩ = some (.int .i64 pv)) (by kernel_rfl) (by kernel_rfl) ?_ (fun hH0 => ?_)
                · exact ⟨xI, xQ, xP, xR, xB0, xB1, j0, j1⟩
                refine tkY (i := 0) (oi := q0) (v := ?_) rfl (by kernel_rfl) (fun _ _ _ h => h) (by rfl) ?_ ‹_› ?_; rotate_left
                · intro wq hSw; simp only [q0]; (try dsimp only at hSw); go_simp; (try with_reducible rfl)
                try simp only [q0, Act.put, s1, s2, s3]
                refine tkY (i := 1) (oi := q1) (v := ?_) rfl (by kernel_rfl) (fun _ _ _ h => h) (by rfl) ?_ ‹_› ?_; rotate_left
                · intro wq hSw; simp only [q1]; (try dsimp only at hSw); go_simp; (try with_reducible rfl)
                try simp only [q1, Act.put, s1, s2, s3]
                refine tkY (i := 2) (oi := q2) (v := ?_) rfl (by kernel_rfl) (fun _ _ _ h => h) (by rfl) ?_ ‹_› ?_; rotate_left
                · intro wq hSw; simp only [q2]; (try dsimp only at hSw); go_simp; (try with_reducible rfl)
                try simp only [q2, Act.put, s1, s2, s3]
                refine tkY (i := 3) (oi := q3) (v := ?_) rfl (by kernel_rfl) (fun _ _ _ h => h) (by rfl) ?_ ‹_› ?_; rotate_left
                · intro wq hSw; simp only [q3]; (try dsimp only at hSw); go_simp; (try with_reducible rfl)
                try simp only [q3, Act.put, s1, s2, s3]
                refine tkY (i := 4) (oi := q4) (v := ?_) rfl (by kernel_rfl) (fun _ _ _ h => h) (by rfl) ?_ ‹_› ?_; rotate_left
                · intro wq hSw; simp only [q4]; (try dsimp only at hSw); go_simp; (try with_reducible rfl)
                try simp only [q4, Act.put, s1, s2, s3]
                refine tkY (i := 5) (oi := q5) (v := ?_) rfl (by kernel_rfl) (fun _ _ _ h => h) (by rfl) ?_ ‹_› ?_; rotate_left
                · intro wq hSw; simp only [q5]; (try dsimp only at hSw); go_simp; (try with_reducible rfl)
                try simp only [q5, Act.put, s1, s2, s3]
                refine tkY (i := 6) (oi := q6) (v := ?_) rfl (by kernel_rfl) (fun _ _ _ h => h) (by rfl) ?_ ‹_› ?_; rotate_left
                · intro wq hSw; simp only [q6]; (try dsimp only at hSw); go_simp; (try with_reducible rfl)
                try simp only [q6, Act.put, s1, s2, s3]
                refine tkY (i := 7) (oi := q7) (v := ?_) rfl (by kernel_rfl) (fun _ _ _ h => h) (by rfl) ?_ ‹_› ?_; rotate_left
                · intro wq hSw; simp only [q7]; (try dsimp only at hSw); go_simp; (try with_reducible rfl)
                try simp only [q7, Act.put, s1, s2, s3]
                refine tkY (i := 8) (oi := q8) (v := ?_) rfl (by kernel_rfl) (fun _ _ _ h => h) (by rfl) ?_ ‹_› ?_; rotate_left
                · intro wq hSw; simp only [q8]; (try dsimp only at hSw); go_simp; (try with_reducible rfl)
                try simp only [q8, Act.put, s1, s2, s3]
                refine tkY (i := 9) (oi := q9) (v := ?_) rfl (by kernel_rfl) (fun _ _ _ h => h) (by rfl) ?_ ‹_› ?_; rotate_left
                · intro wq hSw; simp only [q9]; (try dsimp only at hSw); go_simp; (try with_reducible rfl)
                try simp only [q9, Act.put, s1, s2, s3]
                refine tkY (i := 10) (oi := q10) (v := ?_) rfl (by kernel_rfl) (fun _ _ _ h => h) (by rfl) ?_ ‹_› ?_; rotate_left
                · intro wq hSw; simp only [q10]; (try dsimp only at hSw); go_simp; (try with_reducible rfl)
                try simp only [q10, Act.put, s1, s2, s3]
                refine tkY (i := 11) (oi := q11) (v := ?_) rfl (by kernel_rfl) (fun _ _ _ h => h) (by rfl) ?_ ‹_› ?_; rotate_left
                · intro wq hSw; simp only [q11]; (try dsimp only at hSw); go_simp; (try with_reducible rfl)
                try simp only [q11, Act.put, s1, s2, s3]
                refine tkY (i := 12) (oi := q12) (v := ?_) rfl (by kernel_rfl) (fun _ _ _ h => h) (by rfl) ?_ ‹_› ?_; rotate_left
                · intro wq hSw; simp only [q12]; (try dsimp only at hSw); go_simp; (try with_reducible rfl)
                try simp only [q12, Act.put, s1, s2, s3]
                refine tkY (i := 13) (oi := q13) (v := ?_) rfl (by kernel_rfl) (fun _ _ _ h => h) (by rfl) ?_ ‹_› ?_; rotate_left
                · intro wq hSw; simp only [q13]; (try dsimp only at hSw); go_simp; (try with_reducible rfl)
                try simp only [q13, Act.put, s1, s2, s3]
                refine tkY (i := 14) (oi := q14) (v := ?_) rfl (by kernel_rfl) (fun _ _ _ h => h) (by rfl) ?_ ‹_› ?_; rotate_left
                · intro wq hSw; simp only [q14]; (try dsimp only at hSw); go_simp; (try with_reducible rfl)
                try simp only [q14, Act.put, s1, s2, s3]
                refine tkY (i := 15) (oi := q15) (v := ?_) rfl (by kernel_rfl) (fun _ _ _ h => h) (by rfl) ?_ ‹_› ?_; rotate_left
                · intro wq hSw; simp only [q15]; (try dsimp only at hSw); go_simp; (try with_reducible rfl)
                try simp only [q15, Act.put, s1, s2, s3]
                refine tkY (i := 16) (oi := q16) (v := ?_) rfl (by kernel_rfl) (fun _ _ _ h => h) (by rfl) ?_ ‹_› ?_; rotate_left
                · intro wq hSw; simp only [q16]; (try dsimp only at hSw); go_simp; (try with_reducible rfl)
                try simp only [q16, Act.put, s1, s2, s3]
                refine tkY (i := 17) (oi := q17) (v := ?_) rfl (by kernel_rfl) (fun _ _ _ h => h) (by rfl) ?_ ‹_› ?_; rotate_left
                · intro wq hSw; simp only [q17]; (try dsimp only at hSw); go_simp; (try with_reducible rfl)
                try simp only [q17, Act.put, s1, s2, s3]
                refine tkY (i := 18) (oi := q18) (v := ?_) rfl (by kernel_rfl) (fun _ _ _ h => h) (by rfl) ?_ ‹_› ?_; rotate_left
                · intro wq hSw; simp only [q18]; (try dsimp only at hSw); go_simp; (try with_reducible rfl)
                try simp only [q18, Act.put, s1, s2, s3]
                refine tkY (i := 19) (oi := q19) (v := ?_) rfl (by kernel_rfl) (fun _ _ _ h => h) (by rfl) ?_ ‹_› ?_; rotate_left
                · intro wq hSw; simp only [q19]; (try dsimp only at hSw); go_simp; (try with_reducible rfl)
                try simp only [q19, Act.put, s1, s2, s3]
                refine tkY (i := 20) (oi := q20) (v := ?_) rfl (by kernel_rfl) (fun _ _ _ h => h) (by rfl) ?_ ‹_› ?_; rotate_left
                · intro wq hSw; simp only [q20]; (try dsimp only at hSw); go_simp; (try with_reducible rfl)
                try simp only [q20, Act.put, s1, s2, s3]
                refine tkY (i := 21) (oi := q21) (v := ?_) rfl (by kernel_rfl) (fun _ _ _ h => h) (by rfl) ?_ ‹_› ?_; rotate_left
                · intro wq hSw; simp only [q21]; (try dsimp only at hSw); go_simp; (try with_reducible rfl)
                try simp only [q21, Act.put, s1, s2, s3]
                refine tkY (i := 22) (oi := q22) (v := ?_) rfl (by kernel_rfl) (fun _ _ _ h => h) (by rfl) ?_ ‹_› ?_; rotate_left
                · intro wq hSw; simp only [q22]; (try dsimp only at hSw); go_simp; (try with_reducible rfl)
                try simp only [q22, Act.put, s1, s2, s3]
                refine tkY (i := 23) (oi := q23) (v := ?_) rfl (by kernel_rfl) (fun _ _ _ h => h) (by rfl) ?_ ‹_› ?_; rotate_left
                · intro wq hSw; simp only [q23]; (try dsimp only at hSw); go_simp; (try with_reducible rfl)
                try simp only [q23, Act.put, s1, s2, s3]
                refine tkY (i := 24) (oi := q24) (v := ?_) rfl (by kernel_rfl) (fun _ _ _ h => h) (by rfl) ?_ ‹_› ?_; rotate_left
                · intro wq hSw; simp only [q24]; (try dsimp only at hSw); go_simp; (try with_reducible rfl)
                try simp only [q24, Act.put, s1, s2, s3]
                refine tkY (i := 25) (oi := q25) (v := ?_) rfl (by kernel_rfl) (fun _ _ _ h => h) (by rfl) ?_ ‹_› ?_; rotate_left
                · intro wq hSw; simp only [q25]; (try dsimp only at hSw); go_simp; (try with_reducible rfl)
                try simp only [q25, Act.put, s1, s2, s3]
                refine tkY (i := 26) (oi := q26) (v := ?_) rfl (by kernel_rfl) (fun _ _ _ h => h) (by rfl) ?_ ‹_› ?_; rotate_left
                · intro wq hSw; simp only [q26]; (try dsimp only at hSw); go_simp; (try with_reducible rfl)
                try simp only [q26, Act.put, s1, s2, s3]
                refine tkY (i := 27) (oi := q27) (v := ?_) rfl (by kernel_rfl) (fun _ _ _ h => h) (by rfl) ?_ ‹_› ?_; rotate_left
                · intro wq hSw; simp only [q27]; (try dsimp only at hSw); go_simp; (try with_reducible rfl)
                try simp only [q27, Act.put, s1, s2, s3]
                refine tkY (i := 28) (oi := q28) (v := ?_) rfl (by kernel_rfl) (fun _ _ _ h => h) (by rfl) ?_ ‹_› ?_; rotate_left
                · intro wq hSw; simp only [q28]; (try dsimp only at hSw); go_simp; (try with_reducible rfl)
                try simp only [q28, Act.put, s1, s2, s3]
                refine tkY (i := 29) (oi := q29) (v := ?_) rfl (by kernel_rfl) (fun _ _ _ h => h) (by rfl) ?_ ‹_› ?_; rotate_left
                · intro wq hSw; simp only [q29]; (try dsimp only at hSw); go_simp; (try with_reducible rfl)
                try simp only [q29, Act.put, s1, s2, s3]
                refine tkY (i := 30) (oi := q30) (v := ?_) rfl (by kernel_rfl) (fun _ _ _ h => h) (by rfl) ?_ ‹_› ?_; rotate_left
                · intro wq hSw; simp only [q30]; (try dsimp only at hSw); go_simp; (try with_reducible rfl)
                try simp only [q30, Act.put, s1, s2, s3]
                refine tkY (i := 31) (oi := q31) (v := ?_) rfl (by kernel_rfl) (fun _ _ _ h => h) (by rfl) ?_ ‹_› ?_; rotate_left
                · intro wq hSw; simp only [q31]; (try dsimp only at hSw); go_simp; (try with_reducible rfl)
                try simp only [q31, Act.put, s1, s2, s3]
                refine tkN (i := 32) (oi := q32) rfl (by kernel_rfl) (fun _ _ _ h => h) (by rfl) ‹_› ?_
                try simp only [q32, Act.put, s1, s2, s3]
                refine tkN (i := 33) (oi := q33) rfl (by kernel_rfl) (fun _ _ _ h => h) (by rfl) ‹_› ?_
                try simp only [q33, Act.put, s1, s2, s3]
                refine tkN (i := 34) (oi := q34) rfl (by kernel_rfl) (fun _ _ _ h => h) (by rfl) ‹_› ?_
                try simp only [q34, Act.put, s1, s2, s3]
                refine tkN (i := 35) (oi := q35) rfl (by kernel_rfl) (fun _ _ _ h => h) (by rfl) ‹_› ?_
                try simp only [q35, Act.put, s1, s2, s3]
                refine tkN (i := 36) (oi := q36) rfl (by kernel_rfl) (fun _ _ _ h => h) (by rfl) ‹_› ?_
                try simp only [q36, Act.put, s1, s2, s3]
                refine tkN (i := 37) (oi := q37) rfl (by kernel_rfl) (fun _ _ _ h => h) (by rfl) ‹_› ?_
                try simp only [q37, Act.put, s1, s2, s3]
                refine tkN (i := 38) (oi := q38) rfl (by kernel_rfl) (fun _ _ _ h => h) (by rfl) ‹_› ?_
                try simp only [q38, Act.put, s1, s2, s3]
                refine tkN (i := 39) (oi := q39) rfl (by kernel_rfl) (fun _ _ _ h => h) (by rfl) ‹_› ?_
                try simp only [q39, Act.put, s1, s2, s3]
                refine tkN (i := 40) (oi := q40) rfl (by kernel_rfl) (fun _ _ _ h => h) (by rfl) ‹_› ?_
                try simp only [q40, Act.put, s1, s2, s3]
                refine tkN (i := 41) (oi := q41) rfl (by kernel_rfl) (fun _ _ _ h => h) (by rfl) ‹_› ?_
                try simp only [q41, Act.put, s1, s2, s3]
                refine tkN (i := 42) (oi := q42) rfl (by kernel_rfl) (fun _ _ _ h => h) (by rfl) ‹_› ?_
                try simp only [q42, Act.put, s1, s2, s3]
                refine tkN (i := 43) (oi := q43) rfl (by kernel_rfl) (fun _ _ _ h => h) (by rfl) ‹_› ?_
                try simp only [q43, Act.put, s1, s2, s3]
                refine tkN (i := 44) (oi := q44) rfl (by kernel_rfl) (fun _ _ _ h => h) (by rfl) ‹_› ?_
                try simp only [q44, Act.put, s1, s2, s3]
                refine tkN (i := 45) (oi := q45) rfl (by kernel_rfl) (fun _ _ _ h => h) (by rfl) ‹_› ?_
                try simp only [q45, Act.put, s1, s2, s3]
                refine tkY (i := 46) (oi := q46) (v := ?_) rfl (by kernel_rfl) (fun _ _ _ h => h) (by rfl) ?_ ‹_› ?_; rotate_left
                · intro wq hSw; simp only [q46]; (try dsimp only at hSw); go_simp; (try with_reducible rfl)
                try simp only [q46, Act.put, s1, s2, s3]
                refine wpAnyH_done (by kernel_rfl) ?_ _
                refine noOut_normal ?_
                have RF9 := Lib.hid (RF8.out.below rfl (show Below wq.heap.size wq wq.drew by (repeat' (first | with_reducible exact Below.refl _ _ | with_reducible assumption | with_reducible refine Below.drew ?_ | with_reducible refine below_drewN ?_ _ | with_reducible refine Below.setCell ?_ ?_ _ | with_reducible refine Below.alloc ?_ ?_ _ | omega | (simp; done) | (simp; omega)))))
                have hoW : OnlyL [sS + 1] wq wq.drew := OnlyL.drew (OnlyL.refl _ _)
                clear hH0 xI xQ xP xR xB0 xB1 j0 j1
                generalize wq.drew = w2 at RF9 hoW ⊢
                have cR9 := cellH (Lib.hid RF9.out.rs)
                have fzR9 := frozH (Lib.hid RF9.out.rs)
                have lR9 := lt_of_H (Lib.hid RF9.out.rs)
                gi_wp2_with fail
                exact ⟨OnlyL.from (L := [sS + 1]) (OnlyL.setCell hoW (.inl (List.mem_singleton.2 rfl)) _) _ HCL.out, .inl (fun h => HXP.out (prefix_nt h HP.out))⟩
            · have e0 : ((xi : Int) != (pre.length : Int)) = true := by rw [bne_iff_ne]; omega
              have HXP : Hid (¬ ((xs, xv), xi) = ((ps, pv), pre.length)) := fun h => hxi (by injection h)
              clear hxi
              refine round_held_drew (S := fun w' => w'.cell? ⟨ib, 0, none⟩ = some (.int .i64 pre.length) ∧ w'.cell? ⟨zB, 0, none⟩ = some (.pointer (some ⟨pb, 0, none⟩)) ∧ w'.cell? ⟨pb, 2, none⟩ = some (.pointer (some ⟨r, 0, none⟩)) ∧ w'.cell? ⟨r, 0, none⟩ = some (.slice (some ⟨g, off, none⟩) N.length c5) ∧ w'.cell? ⟨Bp, 0, none⟩ = some (.string xs) ∧ w'.cell? ⟨Bp, 1, none⟩ = some (.int .i64 xv) ∧ w'.cell? ⟨g, off + pre.length * 2, none⟩ = some (.string ps) ∧ w'.cell? ⟨g, off + pre.length * 2 + 1, none⟩ = some (.int .i64 pv)) (by kernel_rfl) (by kernel_rfl) ?_ (fun hH0 => ?_)
              · exact ⟨xI, xQ, xP, xR, xB0, xB1, j0, j1⟩
              refine tkY (i := 0) (oi := q0) (v := ?_) rfl (by kernel_rfl) (fun _ _ _ h => h) (by rfl) ?_ ‹_› ?_; rotate_left
              · intro wq hSw; simp only [q0]; (try dsimp only at hSw); go_simp; (try with_reducible rfl)
              try simp only [q0, Act.put, s1, s2, s3]
              refine tkY (i := 1) (oi := q1) (v := ?_) rfl (by kernel_rfl) (fun _ _ _ h => h) (by rfl) ?_ ‹_› ?_; rotate_left
              · intro wq hSw; simp only [q1]; (try dsimp only at hSw); go_simp; (try with_reducible rfl)
              try simp only [q1, Act.put, s1, s2, s3]
              refine tkY (i := 2) (oi := q2) (v := ?_) rfl (by kernel_rfl) (fun _ _ _ h => h) (by rfl) ?_ ‹_› ?_; rotate_left
              · intro wq hSw; simp only [q2]; (try dsimp only at hSw); go_simp; (try with_reducible rfl)
              try simp only [q2, Act.put, s1, s2, s3]
              refine tkY (i := 3) (oi := q3) (v := ?_) rfl (by kernel_rfl) (fun _ _ _ h => h) (by rfl) ?_ ‹_› ?_; rotate_left
              · intro wq hSw; simp only [q3]; (try dsimp only at hSw); go_simp; (try with_reducible rfl)
              try simp only [q3, Act.put, s1, s2, s3]
              refine tkY (i := 4) (oi := q4) (v := ?_) rfl (by kernel_rfl) (fun _ _ _ h => h) (by rfl) ?_ ‹_› ?_; rotate_left
              · intro wq hSw; simp only [q4]; (try dsimp only at hSw); go_simp; (try with_reducible rfl)
              try simp only [q4, Act.put, s1, s2, s3]
              refine tkY (i := 5) (oi := q5) (v := ?_) rfl (by kernel_rfl) (fun _ _ _ h => h) (by rfl) ?_ ‹_› ?_; rotate_left
              · intro wq hSw; simp only [q5]; (try dsimp only at hSw); go_simp; (try with_reducible rfl)
              try simp only [q5, Act.put, s1, s2, s3]
              refine tkY (i := 6) (oi := q6) (v := ?_) rfl (by kernel_rfl) (fun _ _ _ h => h) (by rfl) ?_ ‹_› ?_; rotate_left
              · intro wq hSw; simp only [q6]; (try dsimp only at hSw); go_simp; (try with_reducible rfl)
              try simp only [q6, Act.put, s1, s2, s3]
              refine tkY (i := 7) (oi := q7) (v := ?_) rfl (by kernel_rfl) (fun _ _ _ h => h) (by rfl) ?_ ‹_› ?_; rotate_left
              · intro wq hSw; simp only [q7]; (try dsimp only at hSw); go_simp; (try with_reducible rfl)
              try simp only [q7, Act.put, s1, s2, s3]
              refine tkY (i := 8) (oi := q8) (v := ?_) rfl (by kernel_rfl) (fun _ _ _ h => h) (by rfl) ?_ ‹_› ?_; rotate_left
              · intro wq hSw; simp only [q8]; (try dsimp only at hSw); go_simp; (try with_reducible rfl)
              try simp only [q8, Act.put, s1, s2, s3]
              refine tkY (i := 9) (oi := q9) (v := ?_) rfl (by kernel_rfl) (fun _ _ _ h => h) (by rfl) ?_ ‹_› ?_; rotate_left
              · intro wq hSw; simp only [q9]; (try dsimp only at hSw); go_simp; (try with_reducible rfl)
              try simp only [q9, Act.put, s1, s2, s3]
              refine tkY (i := 10) (oi := q10) (v := ?_) rfl (by kernel_rfl) (fun _ _ _ h => h) (by rfl) ?_ ‹_› ?_; rotate_left
              · intro wq hSw; simp only [q10]; (try dsimp only at hSw); go_simp; (try with_reducible rfl)
              try simp only [q10, Act.put, s1, s2, s3]
              refine tkY (i := 11) (oi := q11) (v := ?_) rfl (by kernel_rfl) (fun _ _ _ h => h) (by rfl) ?_ ‹_› ?_; rotate_left
              · intro wq hSw; simp only [q11]; (try dsimp only at hSw); go_simp; (try with_reducible rfl)
              try simp only [q11, Act.put, s1, s2, s3]
              refine tkY (i := 12) (oi := q12) (v := ?_) rfl (by kernel_rfl) (fun _ _ _ h => h) (by rfl) ?_ ‹_› ?_; rotate_left
              · intro wq hSw; simp only [q12]; (try dsimp only at hSw); go_simp; (try with_reducible rfl)
              try simp only [q12, Act.put, s1, s2, s3]
              refine tkY (i := 13) (oi := q13) (v := ?_) rfl (by kernel_rfl) (fun _ _ _ h => h) (by rfl) ?_ ‹_› ?_; rotate_left
              · intro wq hSw; simp only [q13]; (try dsimp only at hSw); go_simp; (try with_reducible rfl)
              try simp only [q13, Act.put, s1, s2, s3]
              refine tkY (i := 14) (oi := q14) (v := ?_) rfl (by kernel_rfl) (fun _ _ _ h => h) (by rfl) ?_ ‹_› ?_; rotate_left
              · intro wq hSw; simp only [q14]; (try dsimp only at hSw); go_simp; (try with_reducible rfl)
              try simp only [q14, Act.put, s1, s2, s3]
              refine tkY (i := 15) (oi := q15) (v := ?_) rfl (by kernel_rfl) (fun _ _ _ h => h) (by rfl) ?_ ‹_› ?_; rotate_left
              · intro wq hSw; simp only [q15]; (try dsimp only at hSw); go_simp; (try with_reducible rfl)
              try simp only [q15, Act.put, s1, s2, s3]
              refine tkN (i := 16) (oi := q16) rfl (by kernel_rfl) (fun _ _ _ h => h) (by rfl) ‹_› ?_
              try simp only [q16, Act.put, s1, s2, s3]
              refine tkN (i := 17) (oi := q17) rfl (by kernel_rfl) (fun _ _ _ h => h) (by rfl) ‹_› ?_
              try simp only [q17, Act.put, s1, s2, s3]
              refine tkN (i := 18) (oi := q18) rfl (by kernel_rfl) (fun _ _ _ h => h) (by rfl) ‹_› ?_
              try simp only [q18, Act.put, s1, s2, s3]
              refine tkN (i := 19) (oi := q19) rfl (by kernel_rfl) (fun _ _ _ h => h) (by rfl) ‹_› ?_
              try simp only [q19, Act.put, s1, s2, s3]
              refine tkN (i := 20) (oi := q20) rfl (by kernel_rfl) (fun _ _ _ h => h) (by rfl) ‹_› ?_
              try simp only [q20, Act.put, s1, s2, s3]
              refine tkN (i := 21) (oi := q21) rfl (by kernel_rfl) (fun _ _ _ h => h) (by rfl) ‹_› ?_
              try simp only [q21, Act.put, s1, s2, s3]
              refine tkN (i := 22) (oi := q22) rfl (by kernel_rfl) (fun _ _ _ h => h) (by rfl) ‹_› ?_
              try simp only [q22, Act.put, s1, s2, s3]
              refine tkN (i := 23) (oi := q23) rfl (by kernel_rfl) (fun _ _ _ h => h) (by rfl) ‹_› ?_
              try simp only [q23, Act.put, s1, s2, s3]
              refine tkN (i := 24) (oi := q24) rfl (by kernel_rfl) (fun _ _ _ h => h) (by rfl) ‹_› ?_
              try simp only [q24, Act.put, s1, s2, s3]
              refine tkN (i := 25) (oi := q25) rfl (by kernel_rfl) (fun _ _ _ h => h) (by rfl) ‹_› ?_
              try simp only [q25, Act.put, s1, s2, s3]
              refine tkN (i := 26) (oi := q26) rfl (by kernel_rfl) (fun _ _ _ h => h) (by rfl) ‹_› ?_
              try simp only [q26, Act.put, s1, s2, s3]
              refine tkN (i := 27) (oi := q27) rfl (by kernel_rfl) (fun _ _ _ h => h) (by rfl) ‹_› ?_
              try simp only [q27, Act.put, s1, s2, s3]
              refine tkN (i := 28) (oi := q28) rfl (by kernel_rfl) (fun _ _ _ h => h) (by rfl) ‹_› ?_
              try simp only [q28, Act.put, s1, s2, s3]
              refine tkN (i := 29) (oi := q29) rfl (by kernel_rfl) (fun _ _ _ h => h) (by rfl) ‹_› ?_
              try simp only [q29, Act.put, s1, s2, s3]
              refine tkY (i := 30) (oi := q30) (v := ?_) rfl (by kernel_rfl) (fun _ _ _ h => h) (by rfl) ?_ ‹_› ?_; rotate_left
              · intro wq hSw; simp only [q30]; (try dsimp only at hSw); go_simp; (try with_reducible rfl)
              try simp only [q30, Act.put, s1, s2, s3]
              refine tkY (i := 31) (oi := q31) (v := ?_) rfl (by kernel_rfl) (fun _ _ _ h => h) (by rfl) ?_ ‹_› ?_; rotate_left
              · intro wq hSw; simp only [q31]; (try dsimp only at hSw); go_simp; (try with_reducible rfl)
              try simp only [q31, Act.put, s1, s2, s3]
              refine tkN (i := 32) (oi := q32) rfl (by kernel_rfl) (fun _ _ _ h => h) (by rfl) ‹_› ?_
              try simp only [q32, Act.put, s1, s2, s3]
              refine tkN (i := 33) (oi := q33) rfl (by kernel_rfl) (fun _ _ _ h => h) (by rfl) ‹_› ?_
              try simp only [q33, Act.put, s1, s2, s3]
              refine tkN (i := 34) (oi := q34) rfl (by kernel_rfl) (fun _ _ _ h => h) (by rfl) ‹_› ?_
              try simp only [q34, Act.put, s1, s2, s3]
              refine tkN (i := 35) (oi := q35) rfl (by kernel_rfl) (fun _ _ _ h => h) (by rfl) ‹_› ?_
              try simp only [q35, Act.put, s1, s2, s3]
              refine tkN (i := 36) (oi := q36) rfl (by kernel_rfl) (fun _ _ _ h => h) (by rfl) ‹_› ?_
              try simp only [q36, Act.put, s1, s2, s3]
              refine tkN (i := 37) (oi := q37) rfl (by kernel_rfl) (fun _ _ _ h => h) (by rfl) ‹_› ?_
              try simp only [q37, Act.put, s1, s2, s3]
              refine tkN (i := 38) (oi := q38) rfl (by kernel_rfl) (fun _ _ _ h => h) (by rfl) ‹_› ?_
              try simp only [q38, Act.put, s1, s2, s3]
              refine tkN (i := 39) (oi := q39) rfl (by kernel_rfl) (fun _ _ _ h => h) (by rfl) ‹_› ?_
              try simp only [q39, Act.put, s1, s2, s3]
              refine tkN (i := 40) (oi := q40) rfl (by kernel_rfl) (fun _ _ _ h => h) (by rfl) ‹_› ?_
              try simp only [q40, Act.put, s1, s2, s3]
              refine tkN (i := 41) (oi := q41) rfl (by kernel_rfl) (fun _ _ _ h => h) (by rfl) ‹_› ?_
              try simp only [q41, Act.put, s1, s2, s3]
              refine tkN (i := 42) (oi := q42) rfl (by kernel_rfl) (fun _ _ _ h => h) (by rfl) ‹_› ?_
              try simp only [q42, Act.put, s1, s2, s3]
              refine tkN (i := 43) (oi := q43) rfl (by kernel_rfl) (fun _ _ _ h => h) (by rfl) ‹_› ?_
              try simp only [q43, Act.put, s1, s2, s3]
              refine tkN (i := 44) (oi := q44) rfl (by kernel_rfl) (fun _ _ _ h => h) (by rfl) ‹_› ?_
              try simp only [q44, Act.put, s1, s2, s3]
              refine tkN (i := 45) (oi := q45) rfl (by kernel_rfl) (fun _ _ _ h => h) (by rfl) ‹_› ?_
              try simp only [q45, Act.put, s1, s2, s3]
              refine tkY (i := 46) (oi := q46) (v := ?_) rfl (by kernel_rfl) (fun _ _ _ h => h) (by rfl) ?_ ‹_› ?_; rotate_left
              · intro wq hSw; simp only [q46]; (try dsimp only at hSw); go_simp; (try with_reducible rfl)
              try simp only [q46, Act.put, s1, s2, s3]
              refine wpAnyH_done (by kernel_rfl) ?_ _
              refine noOut_normal ?_
              have RF9 := Lib.hid (RF8.out.below rfl (show Below wq.heap.size wq wq.drew by (repeat' (first | with_reducible exact Below.refl _ _ | with_reducible assumption | with_reducible refine Below.drew ?_ | with_reducible refine below_drewN ?_ _ | with_reducible refine Below.setCell ?_ ?_ _ | with_reducible refine Below.alloc ?_ ?_ _ | omega | (simp; done) | (simp; omega)))))
              have hoW : OnlyL [sS + 1] wq wq.drew := OnlyL.drew (OnlyL.refl _ _)
              clear hH0 xI xQ xP xR xB0 xB1 j0 j1
              generalize wq.drew = w2 at RF9 hoW ⊢
              have cR9 := cellH (Lib.hid RF9.out.rs)
              have fzR9 := frozH (Lib.hid RF9.out.rs)
              have lR9 := lt_of_H (Lib.hid RF9.out.rs)
              gi_wp2_with fail
              exact ⟨OnlyL.from (L := [sS + 1]) (OnlyL.setCell hoW (.inl (List.mem_singleton.2 rfl)) _) _ HCL.out, .inl (fun h => HXP.out (prefix_nt h HP.out))⟩
          case done2 =>
            intro D2 xs W hD2 hxs hI hK
            rw [hxs] at hI
            obtain ⟨i1, i2, i3, i4⟩ := hI
            rw [List.length_zipIdx] at i1
            try rw [List.length_zipIdx] at i4
            subst ha
            have hB6 : Below ib w62 W := h67.trans i2
            have RF8 := Lib.hid (HRF2.out.below HIB.out hB6)
            have IB8 : Hid (W.heap[ib]? = some (.cells #[.int .i64 N.length] 3 (0, 0))) := i1
            have KD2c := Lib.hid hK
            have hw8 : Below w.heap.size w W := hw62.trans (hB6.mono zw6)
            have zW := hB6.size
            have KD0c : Hid (W.heap[D0]? = _) := (hB6.block _ lD0).trans KD0.out
            have KD1c : Hid (W.heap[D1]? = _) := (hB6.block _ lD1).trans KD1.out
            clear i1 i2 i3 hK hxs hB6
            have xI : W.cell? ⟨ib, 0, none⟩ = some (.int .i64 N.length) := cellH IB8 0
            have xB : W.cell? ⟨rb2, 0, none⟩ = some (.int .i64 2) := cellH (Lib.hid RF8.out.rb) 0
            have xQ : W.cell? ⟨zB, 0, none⟩ = some (.pointer (some ⟨pb, 0, none⟩)) := cellH (Lib.hid RF8.out.qb) 0
            have xP : W.cell? ⟨pb, 2, none⟩ = some (.pointer (some ⟨r, 0, none⟩)) := RF8.out.pl.bx.cell 2
            have xR : W.cell? ⟨r, 0, none⟩ = some (.slice A5 N.length c5) := cellH (Lib.hid RF8.out.pl.pr.rl.box) 0
            have xT : W.cell? ⟨sS, 0, none⟩ = some (.int .i64 stop) := cellH (Lib.hid RF8.out.st) 0
            have e6 : ((N.length : Int) != (N.length : Int)) = false := bne_self_eq_false _
            gi_wp2_with fail
            refine (wpIn_wide (n := 3)).2 ?_
            refine wp_onlyN ?_
            refine wp_region_held_drew (S := fun w' => w'.cell? ⟨ib, 0, none⟩ = some (.int .i64 N.length) ∧ w'.cell? ⟨rb2, 0, none⟩ = some (.int .i64 2) ∧ w'.cell? ⟨zB, 0, none⟩ = some (.pointer (some ⟨pb, 0, none⟩)) ∧ w'.cell? ⟨pb, 2, none⟩ = some (.pointer (some ⟨r, 0, none⟩)) ∧ w'.cell? ⟨r, 0, none⟩ = some (.slice A5 N.length c5) ∧ w'.cell? ⟨sS, 0, none⟩ = some (.int .i64 stop)) (by kernel_rfl) ?_ (fun hH0 => ?_)
            · exact ⟨xI, xB, xQ, xP, xR, xT⟩
            refine tkY (i := 0) (oi := y0) (v := ?_) rfl (by kernel_rfl) (fun _ _ _ h => h) (by rfl) ?_ ‹_› ?_; rotate_left
            · intro wq hSw; simp only [y0]; (try dsimp only at hSw); go_simp; (try with_reducible rfl)
            try simp only [y0, Act.put, s1, s2, s3]
            refine tkY (i := 1) (oi := y1) (v := ?_) rfl (by kernel_rfl) (fun _ _ _ h => h) (by rfl) ?_ ‹_› ?_; rotate_left
            · intro wq hSw; simp only [y1]; (try dsimp only at hSw); go_simp; (try with_reducible rfl)
            try simp only [y1, Act.put, s1, s2, s3]
            refine tkY (i := 2) (oi := y2) (v := ?_) rfl (by kernel_rfl) (fun _ _ _ h => h) (by rfl) ?_ ‹_› ?_; rotate_left
            · intro wq hSw; simp only [y2]; (try dsimp only at hSw); go_simp; (try with_reducible rfl)
            try simp only [y2, Act.put, s1, s2, s3]
            refine tkY (i := 3) (oi := y3) (v := ?_) rfl (by kernel_rfl) (fun _ _ _ h => h) (by rfl) ?_ ‹_› ?_; rotate_left
            · intro wq hSw; simp only [y3]; (try dsimp only at hSw); go_simp; (try with_reducible rfl)
            try simp only [y3, Act.put, s1, s2, s3]
            refine tkY (i := 4) (oi := y4) (v := ?_) rfl (by kernel_rfl) (fun _ _ _ h => h) (by rfl) ?_ ‹_› ?_; rotate_left
            · intro wq hSw; simp only [y4]; (try dsimp only at hSw); go_simp; (try with_reducible rfl)
            try simp only [y4, Act.put, s1, s2, s3]
            refine tkY (i := 5) (oi := y5) (v := ?_) rfl (by kernel_rfl) (fun _ _ _ h => h) (by rfl) ?_ ‹_› ?_; rotate_left
            · intro wq hSw; simp only [y5]; (try dsimp only at hSw); go_simp; (try with_reducible rfl)
            try simp only [y5, Act.put, s1, s2, s3]
            refine tkY (i := 6) (oi := y6) (v := ?_) rfl (by kernel_rfl) (fun _ _ _ h => h) (by rfl) ?_ ‹_› ?_; rotate_left
            · intro wq hSw; simp only [y6]; (try dsimp only at hSw); go_simp; (try with_reducible rfl)
            try simp only [y6, Act.put, s1, s2, s3]
            refine tkY (i := 7) (oi := y7) (v := ?_) rfl (by kernel_rfl) (fun _ _ _ h => h) (by rfl) ?_ ‹_› ?_; rotate_left
            · intro wq hSw; simp only [y7]; (try dsimp only at hSw); go_simp; (try with_reducible rfl)
            try simp only [y7, Act.put, s1, s2, s3]
            refine tkY (i := 8) (oi := y8) (v := ?_) rfl (by kernel_rfl) (fun _ _ _ h => h) (by rfl) ?_ ‹_› ?_; rotate_left
            · intro wq hSw; simp only [y8]; (try dsimp only at hSw); go_simp; (try with_reducible rfl)
            try simp only [y8, Act.put, s1, s2, s3]
            refine tkY (i := 9) (oi := y9) (v := ?_) rfl (by kernel_rfl) (fun _ _ _ h => h) (by rfl) ?_ ‹_› ?_; rotate_left
            · intro wq hSw; simp only [y9]; (try dsimp only at hSw); go_simp; (try with_reducible rfl)
            try simp only [y9, Act.put, s1, s2, s3]
            refine tkY (i := 10) (oi := y10) (v := ?_) rfl (by kernel_rfl) (fun _ _ _ h => h) (by rfl) ?_ ‹_› ?_; rotate_left
            · intro wq hSw; simp only [y10]; (try dsimp only at hSw); go_simp; (try with_reducible rfl)
            try simp only [y10, Act.put, s1, s2, s3]
            refine tkY (i := 11) (oi := y11) (v := ?_) rfl (by kernel_rfl) (fun _ _ _ h => h) (by rfl) ?_ ‹_› ?_; rotate_left
            · intro wq hSw; simp only [y11]; (try dsimp only at hSw); go_simp; (try with_reducible rfl)
            try simp only [y11, Act.put, s1, s2, s3]
            refine tkY (i := 12) (oi := y12) (v := ?_) rfl (by kernel_rfl) (fun _ _ _ h => h) (by rfl) ?_ ‹_› ?_; rotate_left
            · intro wq hSw; simp only [y12]; (try dsimp only at hSw); go_simp; (try with_reducible rfl)
            try simp only [y12, Act.put, s1, s2, s3]
            refine tkY (i := 13) (oi := y13) (v := ?_) rfl (by kernel_rfl) (fun _ _ _ h => h) (by rfl) ?_ ‹_› ?_; rotate_left
            · intro wq hSw; simp only [y13]; (try dsimp only at hSw); go_simp; (try with_reducible rfl)
            try simp only [y13, Act.put, s1, s2, s3]
            refine tkY (i := 14) (oi := y14) (v := ?_) rfl (by kernel_rfl) (fun _ _ _ h => h) (by rfl) ?_ ‹_› ?_; rotate_left
            · intro wq hSw; simp only [y14]; (try dsimp only at hSw); go_simp; (try with_reducible rfl)
            try simp only [y14, Act.put, s1, s2, s3]
            refine tkY (i := 15) (oi := y15) (v := ?_) rfl (by kernel_rfl) (fun _ _ _ h => h) (by rfl) ?_ ‹_› ?_; rotate_left
            · intro wq hSw; simp only [y15]; (try dsimp only at hSw); go_simp; (try with_reducible rfl)
            try simp only [y15, Act.put, s1, s2, s3]
            refine tkY (i := 16) (oi := y16) (v := ?_) rfl (by kernel_rfl) (fun _ _ _ h => h) (by rfl) ?_ ‹_› ?_; rotate_left
            · intro wq hSw; simp only [y16]; (try dsimp only at hSw); go_simp; (try with_reducible rfl)
            try simp only [y16, Act.put, s1, s2, s3]
            refine tkY (i := 17) (oi := y17) (v := ?_) rfl (by kernel_rfl) (fun _ _ _ h => h) (by rfl) ?_ ‹_› ?_; rotate_left
            · intro wq hSw; simp only [y17]; (try dsimp only at hSw); go_simp; (try with_reducible rfl)
            try simp only [y17, Act.put, s1, s2, s3]
            refine tkN (i := 18) (oi := y18) rfl (by kernel_rfl) (fun _ _ _ h => h) (by rfl) ‹_› ?_
            try simp only [y18, Act.put, s1, s2, s3]
            refine tkN (i := 19) (oi := y19) rfl (by kernel_rfl) (fun _ _ _ h => h) (by rfl) ‹_› ?_
            try simp only [y19, Act.put, s1, s2, s3]
            refine tkY (i := 20) (oi := y20) (v := ?_) rfl (by kernel_rfl) (fun _ _ _ h => h) (by rfl) ?_ ‹_› ?_; rotate_left
            · intro wq hSw; simp only [y20]; (try dsimp only at hSw); go_simp; (try with_reducible rfl)
            try simp only [y20, Act.put, s1, s2, s3]
            refine tkY (i := 21) (oi := y21) (v := ?_) rfl (by kernel_rfl) (fun _ _ _ h => h) (by rfl) ?_ ‹_› ?_; rotate_left
            · intro wq hSw; simp only [y21]; (try dsimp only at hSw); go_simp; (try with_reducible rfl)
            try simp only [y21, Act.put, s1, s2, s3]
            refine tkN (i := 22) (oi := y22) rfl (by kernel_rfl) (fun _ _ _ h => h) (by rfl) ‹_› ?_
            try simp only [y22, Act.put, s1, s2, s3]
            refine tkN (i := 23) (oi := y23) rfl (by kernel_rfl) (fun _ _ _ h => h) (by rfl) ‹_› ?_
            try simp only [y23, Act.put, s1, s2, s3]
            refine tkN (i := 24) (oi := y24) rfl (by kernel_rfl) (fun _ _ _ h => h) (by rfl) ‹_› ?_
            try simp only [y24, Act.put, s1, s2, s3]
            refine tkN (i := 25) (oi := y25) rfl (by kernel_rfl) (fun _ _ _ h => h) (by rfl) ‹_› ?_
            try simp only [y25, Act.put, s1, s2, s3]
            refine tkN (i := 26) (oi := y26) rfl (by kernel_rfl) (fun _ _ _ h => h) (by rfl) ‹_› ?_
            try simp only [y26, Act.put, s1, s2, s3]
            refine tkN (i := 27) (oi := y27) rfl (by kernel_rfl) (fun _ _ _ h => h) (by rfl) ‹_› ?_
            try simp only [y27, Act.put, s1, s2, s3]
            refine tkN (i := 28) (oi := y28) rfl (by kernel_rfl) (fun _ _ _ h => h) (by rfl) ‹_› ?_
            try simp only [y28, Act.put, s1, s2, s3]
            refine tkN (i := 29) (oi := y29) rfl (by kernel_rfl) (fun _ _ _ h => h) (by rfl) ‹_› ?_
            try simp only [y29, Act.put, s1, s2, s3]
            refine tkN (i := 30) (oi := y30) rfl (by kernel_rfl) (fun _ _ _ h => h) (by rfl) ‹_› ?_
            try simp only [y30, Act.put, s1, s2, s3]
            refine tkN (i := 31) (oi := y31) rfl (by kernel_rfl) (fun _ _ _ h => h) (by rfl) ‹_› ?_
            try simp only [y31, Act.put, s1, s2, s3]
            refine tkN (i := 32) (oi := y32) rfl (by kernel_rfl) (fun _ _ _ h => h) (by rfl) ‹_› ?_
            try simp only [y32, Act.put, s1, s2, s3]
            refine tkN (i := 33) (oi := y33) rfl (by kernel_rfl) (fun _ _ _ h => h) (by rfl) ‹_› ?_
            try simp only [y33, Act.put, s1, s2, s3]
            refine tkY (i := 34) (oi := y34) (v := ?_) rfl (by kernel_rfl) (fun _ _ _ h => h) (by rfl) ?_ ‹_› ?_; rotate_left
            · intro wq hSw; simp only [y34]; (try dsimp only at hSw); go_simp; (try with_reducible rfl)
            try simp only [y34, Act.put, s1, s2, s3]
            refine tkY (i := 35) (oi := y35) (v := ?_) rfl (by kernel_rfl) (fun _ _ _ h => h) (by rfl) ?_ ‹_› ?_; rotate_left
            · intro wq hSw; simp only [y35]; (try dsimp only at hSw); go_simp; (try with_reducible rfl)
            try simp only [y35, Act.put, s1, s2, s3]
            refine wpAnyH_done (by kernel_rfl) ?_ _
            refine onlyN_normal ?_
            clear hH0 xI xB xQ xP xR xT e6 i4
            have hdn : Below W.heap.size W W.drew := by (repeat' (first | with_reducible exact Below.refl _ _ | with_reducible assumption | with_reducible refine Below.drew ?_ | with_reducible refine below_drewN ?_ _ | with_reducible refine Below.setCell ?_ ?_ _ | with_reducible refine Below.alloc ?_ ?_ _ | omega | (simp; done) | (simp; omega)))

            have RFn := Lib.hid (RF8.out.below rfl hdn)
            have hwn : Below w.heap.size w W.drew := hw8.trans (hdn.mono hw8.size)
            have znW := hdn.size
            have KD0n : Hid (W.drew.heap[D0]? = _) := (hdn.block _ (Array.getElem?_eq_some_iff.1 KD0c.out).1).trans KD0c.out
            have KD1n : Hid (W.drew.heap[D1]? = _) := (hdn.block _ (Array.getElem?_eq_some_iff.1 KD1c.out).1).trans KD1c.out
            have KD2n : Hid (W.drew.heap[D2]? = _) := (hdn.block _ (Array.getElem?_eq_some_iff.1 KD2c.out).1).trans KD2c.out
            clear RF8 IB8 hw8 hdn KD0c KD1c KD2c
            generalize W.drew = Wn at RFn hwn znW KD0n KD1n KD2n ⊢
            have cRB := cellH (Lib.hid RFn.out.rb)
            have cQB := cellH (Lib.hid RFn.out.qb)
            have cPB := cellH (Lib.hid RFn.out.pl.bx.2)
            gi_wp2_with fail
            have zn9 := hwn.size
            have zn8 := (Array.getElem?_eq_some_iff.1 RFn.out.qb).1
            have HRF3 : Hid (RF b E m L P U r pb rv _ _ N um sS zB Bx Wn.heap.size stop 3 (Wn.alloc (.cells #[.int .i64 3] 3))) := RFn.out.round (by (repeat' (first | with_reducible exact Below.refl _ _ | with_reducible assumption | with_reducible refine Below.drew ?_ | with_reducible refine below_drewN ?_ _ | with_reducible refine Below.setCell ?_ ?_ _ | with_reducible refine Below.alloc ?_ ?_ _ | omega | (simp; done) | (simp; omega)))) (blk_new rfl)
            have hw63 : Below w.heap.size w (Wn.alloc (.cells #[.int .i64 3] 3)) := by (repeat' (first | with_reducible exact Below.refl _ _ | with_reducible assumption | with_reducible refine Below.drew ?_ | with_reducible refine below_drewN ?_ _ | with_reducible refine Below.setCell ?_ ?_ _ | with_reducible refine Below.alloc ?_ ?_ _ | omega | (simp; done) | (simp; omega)))
            have hu63 : Wn.heap.size < (Wn.alloc (.cells #[.int .i64 3] 3)).heap.size := by simp
            have hqb3 : zB < (Wn.alloc (.cells #[.int .i64 3] 3)).heap.size := by omega
            replace KD0 := Lib.hid (blk_old (o := (.cells #[.int .i64 3] 3)) KD0n.out)
            replace KD1 := Lib.hid (blk_old (o := (.cells #[.int .i64 3] 3)) KD1n.out)
            have KD2 := Lib.hid (blk_old (o := (.cells #[.int .i64 3] 3)) KD2n.out)
            have hrbz0 : zB ≤ Wn.heap.size := Nat.le_of_lt zn8
            obtain ⟨rb3, hrb⟩ : ∃ x, Wn.heap.size = x := ⟨_, rfl⟩
            clear RFn hwn cRB
            generalize (Wn.alloc (.cells #[.int .i64 3] 3)) = w63 at HRF3 hw63 hu63 hqb3 KD0 KD1 KD2 ⊢
            rw [hrb] at HRF3 hu63 hrbz0 ⊢
            clear hrb
            have cRB := cellH (Lib.hid HRF3.out.rb)
            rw [roundsIn_succ]

            have cR := cellH (Lib.hid HRF3.out.rs)
            have fzR := frozH (Lib.hid HRF3.out.rs)
            have lRR := lt_of_H (Lib.hid HRF3.out.rs)
            gi_wp2_with fail
            have k2 : (w63.setCell ⟨sS + 1, 0, none⟩ (.bool true)).heap[D2]? = some (.deferred (some [])) := (KeepsOthers.setCell _ _ _).same D2 _ KD2.out rfl
            have k1 : ((w63.setCell ⟨sS + 1, 0, none⟩ (.bool true)).putObj D2 (.deferred none)).heap[D1]? = some (.deferred (some [])) := (World.putObj_heap_other (by omega)).trans ((KeepsOthers.setCell _ _ _).same D1 _ KD1.out rfl)
            have k0 : (((w63.setCell ⟨sS + 1, 0, none⟩ (.bool true)).putObj D2 (.deferred none)).putObj D1 (.deferred none)).heap[D0]? = some (.deferred (some [])) := (World.putObj_heap_other (by omega)).trans ((World.putObj_heap_other (by omega)).trans ((KeepsOthers.setCell _ _ _).same D0 _ KD0.out rfl))
            have HR : Hid (((((w63.setCell ⟨sS + 1, 0, none⟩ (.bool true)).putObj D2 (.deferred none)).putObj D1 (.deferred none)).putObj D0 (.deferred none)).heap[sS + 1]? = some (.cells #[.bool true] 4 (0, 0))) := (World.putObj_heap_other (by omega)).trans ((World.putObj_heap_other (by omega)).trans ((World.putObj_heap_other (by omega)).trans (setBox HRF3.out.rs _)))
            have hB : Below w.heap.size w ((((w63.setCell ⟨sS + 1, 0, none⟩ (.bool true)).putObj D2 (.deferred none)).putObj D1 (.deferred none)).putObj D0 (.deferred none)) := Below.trans (Below.trans (Below.trans (hw63.setCell (by have := HSS.out; simp; omega) _) (belowK_b (w := w) (Nat.le_refl _) _ D2 _ _ (by have := HSS.out; omega) k2 rfl rfl)) (belowK_b (w := w) (Nat.le_refl _) _ D1 _ _ (by have := HSS.out; omega) k1 rfl rfl)) (belowK_b (w := w) (Nat.le_refl _) _ D0 _ _ (by have := HSS.out; omega) k0 rfl rfl)
            refine ⟨by simp, .inl ⟨_, _, rfl, run_takeDeferred k2, ⟨by simp, .inl ⟨_, _, rfl, run_takeDeferred k1, ⟨by simp, .inl ⟨_, _, rfl, run_takeDeferred k0, ?_⟩⟩⟩⟩⟩⟩
            clear k2 k1 k0
            generalize ((((w63.setCell ⟨sS + 1, 0, none⟩ (.bool true)).putObj D2 (.deferred none)).putObj D1 (.deferred none)).putObj D0 (.deferred none)) = wz at HR hB ⊢
            have c4 := cellH HR
            exact ⟨_, (by simp [results, Tryd.results6, go_sem, c4]), rfl, hB⟩
          case stop2 =>
            rintro D2 c pre W hD hpre hX hK
            rcases hX with h | ⟨h1, _, _⟩
            · exact absurd hpre h
            · omega
    case stop1 =>
      rintro D1 c pre W hD1 hpre hX hK
      rcases hX with h | ⟨hst, rfl, i1, i2, i3, i4⟩
      · exact absurd hpre h
      · subst ha
        have hple : pre.length ≤ N.length := by have h := hpre.length_le; rw [List.length_zipIdx] at h; exact h
        have hB6 : Below ib w61 W := h67.trans i2
        have RF8 := Lib.hid (HRF1.out.below HIB.out hB6)
        have IB8 : Hid (W.heap[ib]? = some (.cells #[.int .i64 pre.length] 3 (0, 0))) := i1
        have KD1c := Lib.hid hK
        have hw8 : Below w.heap.size w W := hw61.trans (hB6.mono zw6)
        have zW := hB6.size
        have KD0c : Hid (W.heap[D0]? = _) := (hB6.block _ lD0).trans KD0.out
        clear i1 i2 i3 hK hpre hB6
        gi_upto_region 19 with fail
        gi_cut [130] from 95 (fun s130 wx => s130 = .bool false ∧ Below W.heap.size W wx)
        case first =>
          as_aux_lemma =>
            have xI : W.cell? ⟨ib, 0, none⟩ = some (.int .i64 pre.length) := cellH IB8 0
            have xB : W.cell? ⟨rb1, 0, none⟩ = some (.int .i64 1) := cellH (Lib.hid RF8.out.rb) 0
            have xQ : W.cell? ⟨zB, 0, none⟩ = some (.pointer (some ⟨pb, 0, none⟩)) := cellH (Lib.hid RF8.out.qb) 0
            have xP : W.cell? ⟨pb, 2, none⟩ = some (.pointer (some ⟨r, 0, none⟩)) := RF8.out.pl.bx.cell 2
            have xR : W.cell? ⟨r, 0, none⟩ = some (.slice A5 N.length c5) := cellH (Lib.hid RF8.out.pl.pr.rl.box) 0
            have xT : W.cell? ⟨sS, 0, none⟩ = some (.int .i64 stop) := cellH (Lib.hid RF8.out.st) 0
            have d0 : decide ((0 : Int) < stop) = true := decide_eq_true (by omega)
            have dm : min stop (N.length : Int) = stop := by omega
            have dm2 : (if stop ≤ (N.length : Int) then stop else (N.length : Int)) = stop := by rw [if_pos (by omega)]
            have e6 : ((pre.length : Int) != stop) = false := by rw [hst]; exact bne_self_eq_false _
            clear hst
            refine (wpIn_wide (n := 3)).2 ?_
            refine wp_onlyN ?_
            refine wp_region_held_drew (S := fun w' => w'.cell? ⟨ib, 0, none⟩ = some (.int .i64 pre.length) ∧ w'.cell? ⟨rb1, 0, none⟩ = some (.int .i64 1) ∧ w'.cell? ⟨zB, 0, none⟩ = some (.pointer (some ⟨pb, 0, none⟩)) ∧ w'.cell? ⟨pb, 2, none⟩ = some (.pointer (some ⟨r, 0, none⟩)) ∧ w'.cell? ⟨r, 0, none⟩ = some (.slice A5 N.length c5) ∧ w'.cell? ⟨sS, 0, none⟩ = some (.int .i64 stop)) (by kernel_rfl) ?_ (fun hH0 => ?_)
            · exact ⟨xI, xB, xQ, xP, xR, xT⟩
            refine tkY (i := 0) (oi := y0) (v := ?_) rfl (by kernel_rfl) (fun _ _ _ h => h) (by rfl) ?_ ‹_› ?_; rotate_left
            · intro wq hSw; simp only [y0]; (try dsimp only at hSw); go_simp; (try with_reducible rfl)
            try simp only [y0, Act.put, s1, s2, s3]
            refine tkY (i := 1) (oi := y1) (v := ?_) rfl (by kernel_rfl) (fun _ _ _ h => h) (by rfl) ?_ ‹_› ?_; rotate_left
            · intro wq hSw; simp only [y1]; (try dsimp only at hSw); go_simp; (try with_reducible rfl)
            try simp only [y1, Act.put, s1, s2, s3]
            refine tkY (i := 2) (oi := y2) (v := ?_) rfl (by kernel_rfl) (fun _ _ _ h => h) (by rfl) ?_ ‹_› ?_; rotate_left
            · intro wq hSw; simp only [y2]; (try dsimp only at hSw); go_simp; (try with_reducible rfl)
            try simp only [y2, Act.put, s1, s2, s3]
            refine tkN (i := 3) (oi := y3) rfl (by kernel_rfl) (fun _ _ _ h => h) (by rfl) ‹_› ?_
            try simp only [y3, Act.put, s1, s2, s3]
            refine tkN (i := 4) (oi := y4) rfl (by kernel_rfl) (fun _ _ _ h => h) (by rfl) ‹_› ?_
            try simp only [y4, Act.put, s1, s2, s3]
            refine tkN (i := 5) (oi := y5) rfl (by kernel_rfl) (fun _ _ _ h => h) (by rfl) ‹_› ?_
            try simp only [y5, Act.put, s1, s2, s3]
            refine tkN (i := 6) (oi := y6) rfl (by kernel_rfl) (fun _ _ _ h => h) (by rfl) ‹_› ?_
            try simp only [y6, Act.put, s1, s2, s3]
            refine tkN (i := 7) (oi := y7) rfl (by kernel_rfl) (fun _ _ _ h => h) (by rfl) ‹_› ?_
            try simp only [y7, Act.put, s1, s2, s3]
            refine tkN (i := 8) (oi := y8) rfl (by kernel_rfl) (fun _ _ _ h => h) (by rfl) ‹_› ?_
            try simp only [y8, Act.put, s1, s2, s3]
            refine tkN (i := 9) (oi := y9) rfl (by kernel_rfl) (fun _ _ _ h => h) (by rfl) ‹_› ?_
            try simp only [y9, Act.put, s1, s2, s3]
            refine tkN (i := 10) (oi := y10) rfl (by kernel_rfl) (fun _ _ _ h => h) (by rfl) ‹_› ?_
            try simp only [y10, Act.put, s1, s2, s3]
            refine tkN (i := 11) (oi := y11) rfl (by kernel_rfl) (fun _ _ _ h => h) (by rfl) ‹_› ?_
            try simp only [y11, Act.put, s1, s2, s3]
            refine tkN (i := 12) (oi := y12) rfl (by kernel_rfl) (fun _ _ _ h => h) (by rfl) ‹_› ?_
            try simp only [y12, Act.put, s1, s2, s3]
            refine tkY (i := 13) (oi := y13) (v := ?_) rfl (by kernel_rfl) (fun _ _ _ h => h) (by rfl) ?_ ‹_› ?_; rotate_left
            · intro wq hSw; simp only [y13]; (try dsimp only at hSw); go_simp; (try with_reducible rfl)
            try simp only [y13, Act.put, s1, s2, s3]
            refine tkY (i := 14) (oi := y14) (v := ?_) rfl (by kernel_rfl) (fun _ _ _ h => h) (by rfl) ?_ ‹_› ?_; rotate_left
            · intro wq hSw; simp only [y14]; (try dsimp only at hSw); go_simp; (try with_reducible rfl)
            try simp only [y14, Act.put, s1, s2, s3]
            refine tkY (i := 15) (oi := y15) (v := ?_) rfl (by kernel_rfl) (fun _ _ _ h => h) (by rfl) ?_ ‹_› ?_; rotate_left
            · intro wq hSw; simp only [y15]; (try dsimp only at hSw); go_simp; (try with_reducible rfl)
            try simp only [y15, Act.put, s1, s2, s3]
            refine tkY (i := 16) (oi := y16) (v := ?_) rfl (by kernel_rfl) (fun _ _ _ h => h) (by rfl) ?_ ‹_› ?_; rotate_left
            · intro wq hSw; simp only [y16]; (try dsimp only at hSw); go_simp; (try with_reducible rfl)
            try simp only [y16, Act.put, s1, s2, s3]
            refine tkY (i := 17) (oi := y17) (v := ?_) rfl (by kernel_rfl) (fun _ _ _ h => h) (by rfl) ?_ ‹_› ?_; rotate_left
            · intro wq hSw; simp only [y17]; (try dsimp only at hSw); go_simp; (try with_reducible rfl)
            try simp only [y17, Act.put, s1, s2, s3]
            refine tkY (i := 18) (oi := y18) (v := ?_) rfl (by kernel_rfl) (fun _ _ _ h => h) (by rfl) ?_ ‹_› ?_; rotate_left
            · intro wq hSw; simp only [y18]; (try dsimp only at hSw); go_simp; (try with_reducible rfl)
            try simp only [y18, Act.put, s1, s2, s3]
            refine tkY (i := 19) (oi := y19) (v := ?_) rfl (by kernel_rfl) (fun _ _ _ h => h) (by rfl) ?_ ‹_› ?_; rotate_left
            · intro wq hSw; simp only [y19]; (try dsimp only at hSw); go_simp; (try with_reducible rfl)
            try simp only [y19, Act.put, s1, s2, s3]
            refine tkY (i := 20) (oi := y20) (v := ?_) rfl (by kernel_rfl) (fun _ _ _ h => h) (by rfl) ?_ ‹_› ?_; rotate_left
            · intro wq hSw; simp only [y20]; (try dsimp only at hSw); go_simp; (try with_reducible rfl)
            try simp only [y20, Act.put, s1, s2, s3]
            refine tkY (i := 21) (oi := y21) (v := ?_) rfl (by kernel_rfl) (fun _ _ _ h => h) (by rfl) ?_ ‹_› ?_; rotate_left
            · intro wq hSw; simp only [y21]; (try dsimp only at hSw); go_simp; (try with_reducible rfl)
            try simp only [y21, Act.put, s1, s2, s3]
            refine tkY (i := 22) (oi := y22) (v := ?_) rfl (by kernel_rfl) (fun _ _ _ h => h) (by rfl) ?_ ‹_› ?_; rotate_left
            · intro wq hSw; simp only [y22]; (try dsimp only at hSw); go_simp; (try with_reducible rfl)
            try simp only [y22, Act.put, s1, s2, s3]
            refine tkY (i := 23) (oi := y23) (v := ?_) rfl (by kernel_rfl) (fun _ _ _ h => h) (by rfl) ?_ ‹_› ?_; rotate_left
            · intro wq hSw; simp only [y23]; (try dsimp only at hSw); go_simp; (try with_reducible rfl)
            try simp only [y23, Act.put, s1, s2, s3]
            refine tkY (i := 24) (oi := y24) (v := ?_) rfl (by kernel_rfl) (fun _ _ _ h => h) (by rfl) ?_ ‹_› ?_; rotate_left
            · intro wq hSw; simp only [y24]; (try dsimp only at hSw); go_simp; (try with_reducible rfl)
            try simp only [y24, Act.put, s1, s2, s3]
            refine tkY (i := 25) (oi := y25) (v := ?_) rfl (by kernel_rfl) (fun _ _ _ h => h) (by rfl) ?_ ‹_› ?_; rotate_left
            · intro wq hSw; simp only [y25]; (try dsimp only at hSw); go_simp; (try with_reducible rfl)
            try simp only [y25, Act.put, s1, s2, s3]
            refine tkY (i := 26) (oi := y26) (v := ?_) rfl (by kernel_rfl) (fun _ _ _ h => h) (by rfl) ?_ ‹_› ?_; rotate_left
            · intro wq hSw; simp only [y26]; (try dsimp only at hSw); go_simp; (try with_reducible rfl)
            try simp only [y26, Act.put, s1, s2, s3]
            refine tkY (i := 27) (oi := y27) (v := ?_) rfl (by kernel_rfl) (fun _ _ _ h => h) (by rfl) ?_ ‹_› ?_; rotate_left
            · intro wq hSw; simp only [y27]; (try dsimp only at hSw); go_simp; (try with_reducible rfl)
            try simp only [y27, Act.put, s1, s2, s3]
            refine tkY (i := 28) (oi := y28) (v := ?_) rfl (by kernel_rfl) (fun _ _ _ h => h) (by rfl) ?_ ‹_› ?_; rotate_left
            · intro wq hSw; simp only [y28]; (try dsimp only at hSw); go_simp; (try with_reducible rfl)
            try simp only [y28, Act.put, s1, s2, s3]
            refine tkY (i := 29) (oi := y29) (v := ?_) rfl (by kernel_rfl) (fun _ _ _ h => h) (by rfl) ?_ ‹_› ?_; rotate_left
            · intro wq hSw; simp only [y29]; (try dsimp only at hSw); go_simp; (try with_reducible rfl)
            try simp only [y29, Act.put, s1, s2, s3]
            refine tkY (i := 30) (oi := y30) (v := ?_) rfl (by kernel_rfl) (fun _ _ _ h => h) (by rfl) ?_ ‹_› ?_; rotate_left
            · intro wq hSw; simp only [y30]; (try dsimp only at hSw); go_simp; (try with_reducible rfl)
            try simp only [y30, Act.put, s1, s2, s3]
            refine tkY (i := 31) (oi := y31) (v := ?_) rfl (by kernel_rfl) (fun _ _ _ h => h) (by rfl) ?_ ‹_› ?_; rotate_left
            · intro wq hSw; simp only [y31]; (try dsimp only at hSw); go_simp; (try with_reducible rfl)
            try simp only [y31, Act.put, s1, s2, s3]
            refine tkY (i := 32) (oi := y32) (v := ?_) rfl (by kernel_rfl) (fun _ _ _ h => h) (by rfl) ?_ ‹_› ?_; rotate_left
            · intro wq hSw; simp only [y32]; (try dsimp only at hSw); go_simp; (try with_reducible rfl)
            try simp only [y32, Act.put, s1, s2, s3]
            refine tkY (i := 33) (oi := y33) (v := ?_) rfl (by kernel_rfl) (fun _ _ _ h => h) (by rfl) ?_ ‹_› ?_; rotate_left
            · intro wq hSw; simp only [y33]; (try dsimp only at hSw); go_simp; (try with_reducible rfl)
            try simp only [y33, Act.put, s1, s2, s3]
            refine tkY (i := 34) (oi := y34) (v := ?_) rfl (by kernel_rfl) (fun _ _ _ h => h) (by rfl) ?_ ‹_› ?_; rotate_left
            · intro wq hSw; simp only [y34]; (try dsimp only at hSw); go_simp; (try with_reducible rfl)
            try simp only [y34, Act.put, s1, s2, s3]
            refine tkY (i := 35) (oi := y35) (v := ?_) rfl (by kernel_rfl) (fun _ _ _ h => h) (by rfl) ?_ ‹_› ?_; rotate_left
            · intro wq hSw; simp only [y35]; (try dsimp only at hSw); go_simp; (try with_reducible rfl)
            try simp only [y35, Act.put, s1, s2, s3]
            refine wpAnyH_done (by kernel_rfl) ?_ _
            refine onlyN_normal ?_
            gi_wp2_with fail
            gi_meet
            exact ⟨rfl, by (repeat' (first | with_reducible exact Below.refl _ _ | with_reducible assumption | with_reducible refine Below.drew ?_ | with_reducible refine below_drewN ?_ _ | with_reducible refine Below.setCell ?_ ?_ _ | with_reducible refine Below.alloc ?_ ?_ _ | omega | (simp; done) | (simp; omega)))⟩
        case rest =>
          as_aux_lemma =>
            obtain ⟨rfl, hdn⟩ := hcut
            obtain ⟨Wn, rfl⟩ : ∃ x : World, x = wc := ⟨_, rfl⟩
            clear i4 hst

            have RFn := Lib.hid (RF8.out.below rfl hdn)
            have hwn : Below w.heap.size w Wn := hw8.trans (hdn.mono hw8.size)
            have znW := hdn.size
            have KD0n : Hid (Wn.heap[D0]? = _) := (hdn.block _ (Array.getElem?_eq_some_iff.1 KD0c.out).1).trans KD0c.out
            have KD1n : Hid (Wn.heap[D1]? = _) := (hdn.block _ (Array.getElem?_eq_some_iff.1 KD1c.out).1).trans KD1c.out
            clear RF8 IB8 hw8 hdn KD0c KD1c
            have cRB := cellH (Lib.hid RFn.out.rb)
            have cQB := cellH (Lib.hid RFn.out.qb)
            have cPB := cellH (Lib.hid RFn.out.pl.bx.2)
            gi_wp2_with fail
            have hzD0 : zB ≤ D0 := by omega

            first | refine wide_open ?_ | refine wide_open2 ?_
            refine (RFn.out.pl.pr.st.noteOne HONE.out).mono ?_
            rintro e wa ⟨⟨ev, rfl⟩, v, sa, ka⟩
            have LF := Lib.hid (RFn.out.pl.pr.left sa ka)
            have HBa := Lib.hid (RFn.out.pl.pr.st.keepB ka (by simp))
            have SA := Lib.hid sa
            have KA := Lib.hid ka
            have fz := HFK.out zB (.inr (Nat.le_refl _))
            have cqa : Hid (wa.heap[zB]? = some (.cells #[.pointer (some ⟨pb, 0, none⟩)] 56 (0, 0))) := (ka.block _ (Array.getElem?_eq_some_iff.1 RFn.out.qb).1 fz.1 fz.2.1 fz.2.2.1 fz.2.2.2.1 (by simp)).trans RFn.out.qb
            have cpa : Hid (wa.heap[pb]? = some (PlayB L r rv)) := (ka.box RFn.out.pl.bx (by simp)).2
            have cQB := cellH cqa
            have cPB := cellH cpa
            clear sa ka fz cRB
            gi_wp2_with fail
            first | refine wide_open ?_ | refine wide_open2 ?_
            refine (LF.out.1.noteOne HONE.out SA.out.hb).mono ?_
            rintro e wb ⟨⟨ev2, rfl⟩, vrb, rb2, kb⟩
            have PR := Lib.hid (Pr.right SA.out LF.out.1 LF.out.2 rb2 kb)
            have lrb := (Array.getElem?_eq_some_iff.1 RFn.out.qb).1
            have hrbz : zB ≤ rb1 := hrbz0
            have RFb := Lib.hid (RFn.out.noted KA.out kb PR.out (HFK.out sS (.inl (by omega))) (HFK.out (sS + 1) (.inl lR1)) (HFK.out zB (.inr (Nat.le_refl _))) (HFK.out Bx (.inr hBx2)) (HFK.out rb1 (.inr hrbz)))
            have HBb : Below b wa wb := kb.below LF.out.1.hr LF.out.1.hr LF.out.1.hr (fun k e => (LF.out.1.own.lt k e).1) (by simp) SA.out.hb
            have hwb : Below w.heap.size w wb := hwn.trans ((HBa.out.trans HBb).mono (by have := HSS.out; omega))
            have KN : ∀ k x, zB ≤ k → Wn.heap[k]? = some x → wb.heap[k]? = some x := fun k x hk e => by
              have f := HFK.out k (.inr hk)
              have hl := (Array.getElem?_eq_some_iff.1 e).1
              exact ((kb.block _ (Nat.lt_of_lt_of_le hl KA.out.size) f.2.2.2.2.1 f.2.2.2.2.1 f.2.2.2.2.1 f.2.2.2.2.2 (by simp)).trans (KA.out.block _ hl f.1 f.2.1 f.2.2.1 f.2.2.2.1 (by simp))).trans e
            have KD0b := Lib.hid (KN _ _ hzD0 KD0n.out)
            have KD1b := Lib.hid (KN _ _ (by omega) KD1n.out)
            clear KN HBb rb2 kb PR LF SA KA HBa cqa cpa cQB cPB HFK HONE RFn hwn KD0n KD1n hN2
            generalize moreN N = N at RFb
            have hN2 : N.length ≤ 200 := RFb.out.pl.pr.rl.len
            have cRB := cellH (Lib.hid RFb.out.rb)
            gi_wp2_with fail
            have zn9 := hwb.size
            have zn8 := (Array.getElem?_eq_some_iff.1 RFb.out.qb).1
            have HRF2 : Hid (RF b E m L P U r pb rv _ _ N um sS zB Bx wb.heap.size stop 2 (wb.alloc (.cells #[.int .i64 2] 3))) := RFb.out.round (by (repeat' (first | with_reducible exact Below.refl _ _ | with_reducible assumption | with_reducible refine Below.drew ?_ | with_reducible refine below_drewN ?_ _ | with_reducible refine Below.setCell ?_ ?_ _ | with_reducible refine Below.alloc ?_ ?_ _ | omega | (simp; done) | (simp; omega)))) (blk_new rfl)
            have hw62 : Below w.heap.size w (wb.alloc (.cells #[.int .i64 2] 3)) := by (repeat' (first | with_reducible exact Below.refl _ _ | with_reducible assumption | with_reducible refine Below.drew ?_ | with_reducible refine below_drewN ?_ _ | with_reducible refine Below.setCell ?_ ?_ _ | with_reducible refine Below.alloc ?_ ?_ _ | omega | (simp; done) | (simp; omega)))
            have hu62 : wb.heap.size < (wb.alloc (.cells #[.int .i64 2] 3)).heap.size := by simp
            have hqb2 : zB < (wb.alloc (.cells #[.int .i64 2] 3)).heap.size := by omega
            replace KD0 := Lib.hid (blk_old (o := (.cells #[.int .i64 2] 3)) KD0b.out)
            have KD1 := Lib.hid (blk_old (o := (.cells #[.int .i64 2] 3)) KD1b.out)
            have hrbz0 : zB ≤ wb.heap.size := Nat.le_of_lt zn8
            obtain ⟨rb2, hrb⟩ : ∃ x, wb.heap.size = x := ⟨_, rfl⟩
            clear RFb hwb cRB
            generalize (wb.alloc (.cells #[.int .i64 2] 3)) = w62 at HRF2 hw62 hu62 hqb2 KD0 KD1 ⊢
            rw [hrb] at HRF2 hu62 hrbz0 ⊢
            clear hrb
            have cRB := cellH (Lib.hid HRF2.out.rb)
            rw [roundsIn_succ]
            gi_wp2_with fail
            obtain ⟨A5, c5, hv5, hc5, hm5, _⟩ := Own.rows (fun x _ => encN_len x) HRF2.out.pl.pr.rl.own
            subst hv5
            have IB7 : Hid ((w62.alloc (.cells #[.int .i64 0] 3)).heap[w62.heap.size]? = some (.cells #[.int .i64 0] 3 (0, 0))) := blk_new rfl
            have h67 : Below w62.heap.size w62 (w62.alloc (.cells #[.int .i64 0] 3)) := by (repeat' (first | with_reducible exact Below.refl _ _ | with_reducible assumption | with_reducible refine Below.drew ?_ | with_reducible refine below_drewN ?_ _ | with_reducible refine Below.setCell ?_ ?_ _ | with_reducible refine Below.alloc ?_ ?_ _ | omega | (simp; done) | (simp; omega)))
            have hu7 : w62.heap.size < (w62.alloc (.cells #[.int .i64 0] 3)).heap.size := by simp
            have BX7 : Hid ((w62.alloc (.cells #[.int .i64 0] 3)).heap[Bx]? = some (.cells #[.pointer (some ⟨L, 0, none⟩)] 24 (0, 0))) := blk_old HRF2.out.bx
            have lBx : Bx < w62.heap.size := (Array.getElem?_eq_some_iff.1 HRF2.out.bx).1
            have LD7 := Lib.hid (HRF2.out.pl.pr.st.led.below h67)
            have zw6 := hw62.size
            have lD0 := (Array.getElem?_eq_some_iff.1 KD0.out).1
            have lD1 := (Array.getElem?_eq_some_iff.1 KD1.out).1
            obtain ⟨ib, hib⟩ : ∃ ib, w62.heap.size = ib := ⟨_, rfl⟩
            have HIB := Lib.hid hib
            generalize (w62.alloc (.cells #[.int .i64 0] 3)) = w7 at IB7 h67 hu7 BX7 LD7 ⊢
            rw [hib] at IB7 h67 hu7 lBx hu62 hqb2 zw6 lD0 lD1 ⊢
            clear hib cRB
            generalize ha : Act.mk _ _ = a0
            refine wpIn_rangeFunc_ownH rfl (by decide) (gf := 43) (lb := #[.pointer (some ⟨Bx, 0, none⟩)]) (by rw [← ha]; rfl) trivial (enters_of Tryd.func43 (by kernel_rfl) rfl)
              (each1_stops b L P U um v N (3 - 1) Bx ib lBx w7 (Nat.le_of_lt hu7) BX7 LD7.out)
              KeepC.trans (fun W l o o' hl h q1 q2 => keepC_b (m := ib) (h0 := w7.heap.size) (w := w7) (Nat.le_of_lt hu7) W l o o' hl h q1 q2) (Below.refl _ _) (fun x => rfl)
              (EaI N (fun _ => True) ib w7) (EaX N ib w7 (-1)) (EaI_own (Nat.le_of_lt hu7) (Nat.le_refl _)) (fun c => EaX_own c (Nat.le_of_lt hu7) (Nat.le_refl _)) ⟨IB7.out, Below.refl _ _, rfl, trivial⟩
              (fun x a' W => ∃ Bp, w7.heap.size ≤ Bp ∧ W.heap[Bp]? = some (.cells #[.string x.1.1, .int .i64 x.1.2] 39 (0, 0)) ∧ a' = { tmps := (((a0.tmps.setIfInBounds 37 (.int .i64 x.2)).setIfInBounds 38 (.agg #[.string x.1.1, .int .i64 x.1.2])).setIfInBounds 11 (.int .i64 x.2)).setIfInBounds 12 (.pointer (some ⟨Bp, 0, none⟩)), defers := [] })
              (fun x a' s W W' row hs hg hr => by obtain ⟨Bp, h2, h3, h4⟩ := hs; exact ⟨Bp, h2, ownBlk h3 hg hr, h4⟩) ?assign2 ?body2 ?done2 ?stop2
            case assign2 =>
              intro l9 pre x W K hI hK
              obtain ⟨i1, i2, i3, i4⟩ := hI
              have zz := i2.size
              subst ha
              simp only [encE]
              gi_wp2_with fail
              have h9 := hK _ _ ((KeepsOthers.alloc W (.cells #[.string x.1.1, .int .i64 x.1.2] 39)).from _) (KeepC.ofBelow ((Below.refl _ _).alloc (Nat.le_refl _) _) (by omega)) ⟨blk_old i1, i2.alloc (by omega) _, i3, i4⟩ ⟨_, zz, blk_new rfl, rfl⟩
              simp only [List.setIfInBounds_toArray, List.set_cons_zero, List.set_cons_succ] at h9
              exact h9
            case body2 =>
              as_aux_lemma =>
              rintro l9 pre ⟨⟨xs, xv⟩, xi⟩ a' wq hl9 ⟨rr, hrr⟩ ⟨i1, i2, i3, i4⟩ ⟨Bp, p2, p3, rfl⟩ hlt
              have zq9 := i2.size
              rw [List.length_zipIdx] at hlt
              subst ha
              try simp only [List.setIfInBounds_toArray, List.set_cons_zero, List.set_cons_succ]
              have hB6 : Below ib w62 wq := h67.trans i2
              have RF8 := Lib.hid (HRF2.out.below HIB.out hB6)
              have IB8 : Hid (wq.heap[ib]? = some (.cells #[.int .i64 pre.length] 3 (0, 0))) := i1
              have P8 : Hid (wq.heap[Bp]? = some (.cells #[.string xs, .int .i64 xv] 39 (0, 0))) := p3
              obtain ⟨⟨ps, pv⟩, hp⟩ : ∃ p, N[pre.length]? = some p := ⟨N[pre.length], List.getElem?_eq_getElem hlt⟩
              have HP : Hid (N.zipIdx[pre.length]? = some ((ps, pv), pre.length)) := by show _ = _; rw [List.getElem?_zipIdx, hp]; simp
              obtain ⟨g, off, hA5, hg, hcc⟩ := RF8.out.pl.pr.rl.row pre.length (ps, pv) hp
              subst hA5
              have HI2 := Lib.hid i2
              have HI3 := Lib.hid i3
              have HI4 := Lib.hid i4
              have xI : wq.cell? ⟨ib, 0, none⟩ = some (.int .i64 pre.length) := cellH IB8 0
              have xQ : wq.cell? ⟨zB, 0, none⟩ = some (.pointer (some ⟨pb, 0, none⟩)) := cellH (Lib.hid RF8.out.qb) 0
              have xP : wq.cell? ⟨pb, 2, none⟩ = some (.pointer (some ⟨r, 0, none⟩)) := RF8.out.pl.bx.cell 2
              have xR : wq.cell? ⟨r, 0, none⟩ = some (.slice (some ⟨g, off, none⟩) N.length c5) := cellH (Lib.hid RF8.out.pl.pr.rl.box) 0
              have xB0 : wq.cell? ⟨Bp, 0, none⟩ = some (.string xs) := cellH P8 0
              have xB1 : wq.cell? ⟨Bp, 1, none⟩ = some (.int .i64 xv) := cellH P8 1
              have j0 : wq.cell? ⟨g, off + pre.length * 2, none⟩ = some (.string ps) := hcc 0 _ rfl
              have j1 : wq.cell? ⟨g, off + pre.length * 2 + 1, none⟩ = some (.int .i64 pv) := hcc 1 _ rfl
              have hlt2 : (pre.length : Int) < (N.length : Int) := by omega
              have k2 : (0 : Int) ≤ (pre.length : Int) := by omega
              have k6 : ((pre.length : Int)).toNat = pre.length := by omega
              have hge : decide (N.length ≤ pre.length) = false := decide_eq_false (by omega)
              have hrbl := (Array.getElem?_eq_some_iff.1 HRF2.out.rb).1
              rw [HIB.out] at hrbl
              clear hp i1 i2 i3 i4 p3 hcc hB6
              gi_upto_region 15 with fail
              have HCL : Hid (∀ k ∈ [sS + 1], ∃ cs t z, wq.heap[k]? = some (.cells cs t z)) := by
                intro k hk
                rw [List.mem_singleton.1 hk]
                exact ⟨_, _, _, RF8.out.rs⟩
              have HCI : Hid (∀ k ∈ [ib], ∃ cs t z, wq.heap[k]? = some (.cells cs t z)) := by
                intro k hk
                rw [List.mem_singleton.1 hk]
                exact ⟨_, _, _, IB8.out⟩
              by_cases hxi : xi = pre.length
              · subst hxi
                have e0 : ((pre.length : Int) != (pre.length : Int)) = false := bne_self_eq_false _
                by_cases hxs : xs = ps
                · have e1 : (xs.toList != ps.toList) = false := by rw [hxs]; exact bne_self_eq_false _
                  have e1b : (xs.toList == ps.toList) = true := by rw [hxs]; exact beq_self_eq_true _
                  have HXS := Lib.hid hxs
                  clear hxs
                  obtain ⟨bv, hb9⟩ : ∃ b, (xv != pv) = b := ⟨_, rfl⟩
                  have hbv := Lib.hid hb9
                  refine round_held_drew (S := fun w' => w'.cell? ⟨ib, 0, none⟩ = some (.int .i64 pre.length) ∧ w'.cell? ⟨zB, 0, none⟩ = some (.pointer (some ⟨pb, 0, none⟩)) ∧ w'.cell? ⟨pb, 2, none⟩ = some (.pointer (some ⟨r, 0, none⟩)) ∧ w'.cell? ⟨r, 0, none⟩ = some (.slice (some ⟨g, off, none⟩) N.length c5) ∧ w'.cell? ⟨Bp, 0, none⟩ = some (.string xs) ∧ w'.cell? ⟨Bp, 1, none⟩ = some (.int .i64 xv) ∧ w'.cell? ⟨g, off + pre.length * 2, none⟩ = some (.string ps) ∧ w'.cell? ⟨g, off + pre.length * 2 + 1, none⟩ = some (.int .i64 pv)) (by kernel_rfl) (by kernel_rfl) ?_ (fun hH0 => ?_)
                  · exact ⟨xI, xQ, xP, xR, xB0, xB1, j0, j1⟩
                  refine tkY (i := 0) (oi := q0) (v := ?_) rfl (by kernel_rfl) (fun _ _ _ h => h) (by rfl) ?_ ‹_› ?_; rotate_left
                  · intro wq hSw; simp only [q0]; (try dsimp only at hSw); go_simp; (try with_reducible rfl)
                  try simp only [q0, Act.put, s1, s2, s3]
                  refine tkY (i := 1) (oi := q1) (v := ?_) rfl (by kernel_rfl) (fun _ _ _ h => h) (by rfl) ?_ ‹_› ?_; rotate_left
                  · intro wq hSw; simp only [q1]; (try dsimp only at hSw); go_simp; (try with_reducible rfl)
                  try simp only [q1, Act.put, s1, s2, s3]
                  refine tkY (i := 2) (oi := q2) (v := ?_) rfl (by kernel_rfl) (fun _ _ _ h => h) (by rfl) ?_ ‹_› ?_; rotate_left
                  · intro wq hSw; simp only [q2]; (try dsimp only at hSw); go_simp; (try with_reducible rfl)
                  try simp only [q2, Act.put, s1, s2, s3]
                  refine tkY (i := 3) (oi := q3) (v := ?_) rfl (by kernel_rfl) (fun _ _ _ h => h) (by rfl) ?_ ‹_› ?_; rotate_left
                  · intro wq hSw; simp only [q3]; (try dsimp only at hSw); go_simp; (try with_reducible rfl)
                  try simp only [q3, Act.put, s1, s2, s3]
                  refine tkY (i := 4) (oi := q4) (v := ?_) rfl (by kernel_rfl) (fun _ _ _ h => h) (by rfl) ?_ ‹_› ?_; rotate_left
                  · intro wq hSw; simp only [q4]; (try dsimp only at hSw); go_simp; (try with_reducible rfl)
                  try simp only [q4, Act.put, s1, s2, s3]
                  refine tkY (i := 5) (oi := q5) (v := ?_) rfl (by kernel_rfl) (fun _ _ _ h => h) (by rfl) ?_ ‹_› ?_; rotate_left
                  · intro wq hSw; simp only [q5]; (try dsimp only at hSw); go_simp; (try with_reducible rfl)
                  try simp only [q5, Act.put, s1, s2, s3]
                  refine tkY (i := 6) (oi := q6) (v := ?_) rfl (by kernel_rfl) (fun _ _ _ h => h) (by rfl) ?_ ‹_› ?_; rotate_left
                  · intro wq hSw; simp only [q6]; (try dsimp only at hSw); go_simp; (try with_reducible rfl)
                  try simp only [q6, Act.put, s1, s2, s3]
                  refine tkY (i := 7) (oi := q7) (v := ?_) rfl (by kernel_rfl) (fun _ _ _ h => h) (by rfl) ?_ ‹_› ?_; rotate_left
                  · intro wq hSw; simp only [q7]; (try dsimp only at hSw); go_simp; (try with_reducible rfl)
                  try simp only [q7, Act.put, s1, s2, s3]
                  refine tkY (i := 8) (oi := q8) (v := ?_) rfl (by kernel_rfl) (fun _ _ _ h => h) (by rfl) ?_ ‹_› ?_; rotate_left
                  · intro wq hSw; simp only [q8]; (try dsimp only at hSw); go_simp; (try with_reducible rfl)
                  try simp only [q8, Act.put, s1, s2, s3]
                  refine tkY (i := 9) (oi := q9) (v := ?_) rfl (by kernel_rfl) (fun _ _ _ h => h) (by rfl) ?_ ‹_› ?_; rotate_left
                  · intro wq hSw; simp only [q9]; (try dsimp only at hSw); go_simp; (try with_reducible rfl)
                  try simp only [q9, Act.put, s1, s2, s3]
                  refine tkY (i := 10) (oi := q10) (v := ?_) rfl (by kernel_rfl) (fun _ _ _ h => h) (by rfl) ?_ ‹_› ?_; rotate_left
                  · intro wq hSw; simp only [q10]; (try dsimp only at hSw); go_simp; (try with_reducible rfl)
                  try simp only [q10, Act.put, s1, s2, s3]
                  refine tkY (i := 11) (oi := q11) (v := ?_) rfl (by kernel_rfl) (fun _ _ _ h => h) (by rfl) ?_ ‹_› ?_; rotate_left
                  · intro wq hSw; simp only [q11]; (try dsimp only at hSw); go_simp; (try with_reducible rfl)
                  try simp only [q11, Act.put, s1, s2, s3]
                  refine tkY (i := 12) (oi := q12) (v := ?_) rfl (by kernel_rfl) (fun _ _ _ h => h) (by rfl) ?_ ‹_› ?_; rotate_left
                  · intro wq hSw; simp only [q12]; (try dsimp only at hSw); go_simp; (try with_reducible rfl)
                  try simp only [q12, Act.put, s1, s2, s3]
                  refine tkY (i := 13) (oi := q13) (v := ?_) rfl (by kernel_rfl) (fun _ _ _ h => h) (by rfl) ?_ ‹_› ?_; rotate_left
                  · intro wq hSw; simp only [q13]; (try dsimp only at hSw); go_simp; (try with_reducible rfl)
                  try simp only [q13, Act.put, s1, s2, s3]
                  refine tkY (i := 14) (oi := q14) (v := ?_) rfl (by kernel_rfl) (fun _ _ _ h => h) (by rfl) ?_ ‹_› ?_; rotate_left
                  · intro wq hSw; simp only [q14]; (try dsimp only at hSw); go_simp; (try with_reducible rfl)
                  try simp only [q14, Act.put, s1, s2, s3]
                  refine tkY (i := 15) (oi := q15) (v := ?_) rfl (by kernel_rfl) (fun _ _ _ h => h) (by rfl) ?_ ‹_› ?_; rotate_left
                  · intro wq hSw; simp only [q15]; (try dsimp only at hSw); go_simp; (try with_reducible rfl)
                  try simp only [q15, Act.put, s1, s2, s3]
                  refine tkY (i := 16) (oi := q16) (v := ?_) rfl (by kernel_rfl) (fun _ _ _ h => h) (by rfl) ?_ ‹_› ?_; rotate_left
                  · intro wq hSw; simp only [q16]; (try dsimp only at hSw); go_simp; (try with_reducible rfl)
                  try simp only [q16, Act.put, s1, s2, s3]
                  refine tkY (i := 17) (oi := q17) (v := ?_) rfl (by kernel_rfl) (fun _ _ _ h => h) (by rfl) ?_ ‹_› ?_; rotate_left
                  · intro wq hSw; simp only [q17]; (try dsimp only at hSw); go_simp; (try with_reducible rfl)
                  try simp only [q17, Act.put, s1, s2, s3]
                  refine tkY (i := 18) (oi := q18) (v := ?_) rfl (by kernel_rfl) (fun _ _ _ h => h) (by rfl) ?_ ‹_› ?_; rotate_left
                  · intro wq hSw; simp only [q18]; (try dsimp only at hSw); go_simp; (try with_reducible rfl)
                  try simp only [q18, Act.put, s1, s2, s3]
                  refine tkY (i := 19) (oi := q19) (v := ?_) rfl (by kernel_rfl) (fun _ _ _ h => h) (by rfl) ?_ ‹_› ?_; rotate_left
                  · intro wq hSw; simp only [q19]; (try dsimp only at hSw); go_simp; (try with_reducible rfl)
                  try simp only [q19, Act.put, s1, s2, s3]
                  refine tkY (i := 20) (oi := q20) (v := ?_) rfl (by kernel_rfl) (fun _ _ _ h => h) (by rfl) ?_ ‹_› ?_; rotate_left
                  · intro wq hSw; simp only [q20]; (try dsimp only at hSw); go_simp; (try with_reducible rfl)
                  try simp only [q20, Act.put, s1, s2, s3]
                  refine tkY (i := 21) (oi := q21) (v := ?_) rfl (by kernel_rfl) (fun _ _ _ h => h) (by rfl) ?_ ‹_› ?_; rotate_left
                  · intro wq hSw; simp only [q21]; (try dsimp only at hSw); go_simp; (try with_reducible rfl)
                  try simp only [q21, Act.put, s1, s2, s3]
                  refine tkY (i := 22) (oi := q22) (v := ?_) rfl (by kernel_rfl) (fun _ _ _ h => h) (by rfl) ?_ ‹_› ?_; rotate_left
                  · intro wq hSw; simp only [q22]; (try dsimp only at hSw); go_simp; (try with_reducible rfl)
                  try simp only [q22, Act.put, s1, s2, s3]
                  refine tkY (i := 23) (oi := q23) (v := ?_) rfl (by kernel_rfl) (fun _ _ _ h => h) (by rfl) ?_ ‹_› ?_; rotate_left
                  · intro wq hSw; simp only [q23]; (try dsimp only at hSw); go_simp; (try with_reducible rfl)
                  try simp only [q23, Act.put, s1, s2, s3]
                  refine tkY (i := 24) (oi := q24) (v := ?_) rfl (by kernel_rfl) (fun _ _ _ h => h) (by rfl) ?_ ‹_› ?_; rotate_left
                  · intro wq hSw; simp only [q24]; (try dsimp only at hSw); go_simp; (try with_reducible rfl)
                  try simp only [q24, Act.put, s1, s2, s3]
                  refine tkY (i := 25) (oi := q25) (v := ?_) rfl (by kernel_rfl) (fun _ _ _ h => h) (by rfl) ?_ ‹_› ?_; rotate_left
                  · intro wq hSw; simp only [q25]; (try dsimp only at hSw); go_simp; (try with_reducible rfl)
                  try simp only [q25, Act.put, s1, s2, s3]
                  refine tkY (i := 26) (oi := q26) (v := ?_) rfl (by kernel_rfl) (fun _ _ _ h => h) (by rfl) ?_ ‹_› ?_; rotate_left
                  · intro wq hSw; simp only [q26]; (try dsimp only at hSw); go_simp; (try with_reducible rfl)
                  try simp only [q26, Act.put, s1, s2, s3]
                  refine tkY (i := 27) (oi := q27) (v := ?_) rfl (by kernel_rfl) (fun _ _ _ h => h) (by rfl) ?_ ‹_› ?_; rotate_left
                  · intro wq hSw; simp only [q27]; (try dsimp only at hSw); go_simp; (try with_reducible rfl)
                  try simp only [q27, Act.put, s1, s2, s3]
                  refine tkY (i := 28) (oi := q28) (v := ?_) rfl (by kernel_rfl) (fun _ _ _ h => h) (by rfl) ?_ ‹_› ?_; rotate_left
                  · intro wq hSw; simp only [q28]; (try dsimp only at hSw); go_simp; (try with_reducible rfl)
                  try simp only [q28, Act.put, s1, s2, s3]
                  refine tkY (i := 29) (oi := q29) (v := ?_) rfl (by kernel_rfl) (fun _ _ _ h => h) (by rfl) ?_ ‹_› ?_; rotate_left
                  · intro wq hSw; simp only [q29]; (try dsimp only at hSw); go_simp; (try with_reducible rfl)
                  try simp only [q29, Act.put, s1, s2, s3]
                  refine tkY (i := 30) (oi := q30) (v := ?_) rfl (by kernel_rfl) (fun _ _ _ h => h) (by rfl) ?_ ‹_› ?_; rotate_left
                  · intro wq hSw; simp only [q30]; (try dsimp only at hSw); go_simp; (try with_reducible rfl)
                  try simp only [q30, Act.put, s1, s2, s3]
                  refine tkY (i := 31) (oi := q31) (v := ?_) rfl (by kernel_rfl) (fun _ _ _ h => h) (by rfl) ?_ ‹_› ?_; rotate_left
                  · intro wq hSw; simp only [q31]; (try dsimp only at hSw); go_simp; (try with_reducible rfl)
                  try simp only [q31, Act.put, s1, s2, s3]
                  refine tkY (i := 32) (oi := q32) (v := ?_) rfl (by kernel_rfl) (fun _ _ _ h => h) (by rfl) ?_ ‹_› ?_; rotate_left
                  · intro wq hSw; simp only [q32]; (try dsimp only at hSw); go_simp; (try with_reducible rfl)
                  try simp only [q32, Act.put, s1, s2, s3]
                  refine tkY (i := 33) (oi := q33) (v := ?_) rfl (by kernel_rfl) (fun _ _ _ h => h) (by rfl) ?_ ‹_› ?_; rotate_left
                  · intro wq hSw; simp only [q33]; (try dsimp only at hSw); go_simp; (try with_reducible rfl)
                  try simp only [q33, Act.put, s1, s2, s3]
                  refine tkY (i := 34) (oi := q34) (v := ?_) rfl (by kernel_rfl) (fun _ _ _ h => h) (by rfl) ?_ ‹_› ?_; rotate_left
                  · intro wq hSw; simp only [q34]; (try dsimp only at hSw); go_simp; (try with_reducible rfl)
                  try simp only [q34, Act.put, s1, s2, s3]
                  refine tkY (i := 35) (oi := q35) (v := ?_) rfl (by kernel_rfl) (fun _ _ _ h => h) (by rfl) ?_ ‹_› ?_; rotate_left
                  · intro wq hSw; simp only [q35]; (try dsimp only at hSw); go_simp; (try with_reducible rfl)
                  try simp only [q35, Act.put, s1, s2, s3]
                  refine tkY (i := 36) (oi := q36) (v := ?_) rfl (by kernel_rfl) (fun _ _ _ h => h) (by rfl) ?_ ‹_› ?_; rotate_left
                  · intro wq hSw; simp only [q36]; (try dsimp only at hSw); go_simp; (try with_reducible rfl)
                  try simp only [q36, Act.put, s1, s2, s3]
                  refine tkY (i := 37) (oi := q37) (v := ?_) rfl (by kernel_rfl) (fun _ _ _ h => h) (by rfl) ?_ ‹_› ?_; rotate_left
                  · intro wq hSw; simp only [q37]; (try dsimp only at hSw); go_simp; (try with_reducible rfl)
                  try simp only [q37, Act.put, s1, s2, s3]
                  refine tkY (i := 38) (oi := q38) (v := ?_) rfl (by kernel_rfl) (fun _ _ _ h => h) (by rfl) ?_ ‹_› ?_; rotate_left
                  · intro wq hSw; simp only [q38]; (try dsimp only at hSw); go_simp; (try with_reducible rfl)
                  try simp only [q38, Act.put, s1, s2, s3]
                  refine tkY (i := 39) (oi := q39) (v := ?_) rfl (by kernel_rfl) (fun _ _ _ h => h) (by rfl) ?_ ‹_› ?_; rotate_left
                  · intro wq hSw; simp only [q39]; (try dsimp only at hSw); go_simp; (try with_reducible rfl)
                  try simp only [q39, Act.put, s1, s2, s3]
                  refine tkY (i := 40) (oi := q40) (v := ?_) rfl (by kernel_rfl) (fun _ _ _ h => h) (by rfl) ?_ ‹_› ?_; rotate_left
                  · intro wq hSw; simp only [q40]; (try dsimp only at hSw); go_simp; (try with_reducible rfl)
                  try simp only [q40, Act.put, s1, s2, s3]
                  refine tkY (i := 41) (oi := q41) (v := ?_) rfl (by kernel_rfl) (fun _ _ _ h => h) (by rfl) ?_ ‹_› ?_; rotate_left
                  · intro wq hSw; simp only [q41]; (try dsimp only at hSw); go_simp; (try with_reducible rfl)
                  try simp only [q41, Act.put, s1, s2, s3]
                  refine tkY (i := 42) (oi := q42) (v := ?_) rfl (by kernel_rfl) (fun _ _ _ h => h) (by rfl) ?_ ‹_› ?_; rotate_left
                  · intro wq hSw; simp only [q42]; (try dsimp only at hSw); go_simp; (try with_reducible rfl)
                  try simp only [q42, Act.put, s1, s2, s3]
                  refine tkY (i := 43) (oi := q43) (v := ?_) rfl (by kernel_rfl) (fun _ _ _ h => h) (by rfl) ?_ ‹_› ?_; rotate_left
                  · intro wq hSw; simp only [q43]; (try dsimp only at hSw); go_simp; (try with_reducible rfl)
                  try simp only [q43, Act.put, s1, s2, s3]
                  refine tkY (i := 44) (oi := q44) (v := ?_) rfl (by kernel_rfl) (fun _ _ _ h => h) (by rfl) ?_ ‹_› ?_; rotate_left
                  · intro wq hSw; simp only [q44]; (try dsimp only at hSw); go_simp; (try with_reducible rfl)
                  try simp only [q44, Act.put, s1, s2, s3]
                  refine tkY (i := 45) (oi := q45) (v := ?_) rfl (by kernel_rfl) (fun _ _ _ h => h) (by rfl) ?_ ‹_› ?_; rotate_left
                  · intro wq hSw; simp only [q45]; (try dsimp only at hSw); go_simp; (try with_reducible rfl)
                  try simp only [q45, Act.put, s1, s2, s3]
                  refine tkY (i := 46) (oi := q46) (v := ?_) rfl (by kernel_rfl) (fun _ _ _ h => h) (by rfl) ?_ ‹_› ?_; rotate_left
                  · intro wq hSw; simp only [q46]; (try dsimp only at hSw); go_simp; (try with_reducible rfl)
                  try simp only [q46, Act.put, s1, s2, s3]
                  refine wpAnyH_done (by kernel_rfl) ?_ _
                  refine noOut_normal ?_
                  cases bv
                  · have HXV : Hid (xv = pv) := by (show xv = pv); have h2 := hbv.out; simpa using h2
                    try clear hb9
                    have IB9 : Hid (wq.drew.heap[ib]? = some (.cells #[.int .i64 pre.length] 3 (0, 0))) := IB8.out
                    have RF9 : Hid (RF b E m L P U r pb rv v (.slice (some ⟨g, off, none⟩) N.length c5) N um sS zB Bx rb2 stop 2 wq.drew) := RF8.out.below rfl (by (repeat' (first | with_reducible exact Below.refl _ _ | with_reducible assumption | with_reducible refine Below.drew ?_ | with_reducible refine below_drewN ?_ _ | with_reducible refine Below.setCell ?_ ?_ _ | with_reducible refine Below.alloc ?_ ?_ _ | omega | (simp; done) | (simp; omega))))
                    have hoI : OnlyL [ib] wq wq.drew := OnlyL.drew (OnlyL.refl _ _)
                    clear hH0 xI xQ xP xR xB0 xB1 j0 j1
                    generalize wq.drew = w2 at IB9 RF9 hoI ⊢
                    have hoI2 : OnlyL [ib] wq (w2.setCell ⟨ib, 0, none⟩ (.int .i64 ((pre.length : Int) + 1))) := OnlyL.setCell hoI (.inl (List.mem_singleton.2 rfl)) _
                    have HEI : Hid (∀ Q : Nat → Prop, Q (pre.length + 1) → EaI N Q ib w7 (pre ++ [((xs, xv), pre.length)]) (w2.setCell ⟨ib, 0, none⟩ (.int .i64 ((pre.length : Int) + 1)))) := by
                      intro Q hq
                      refine ⟨?_, HI2.out.trans (OnlyL.below hoI2 (by omega) (fun k hk => by rw [List.mem_singleton.1 hk]; exact Nat.le_refl _)), ?_, by rw [List.length_append]; exact hq⟩
                      · rw [show ((pre ++ [((xs, xv), pre.length)]).length : Int) = (pre.length : Int) + 1 by simp]
                        exact setBox IB9.out _
                      · rw [List.length_append, List.length_singleton, take_snoc HP.out, ← HI3.out, HXS.out, HXV.out]
                    have HKF := Lib.hid (OnlyL.from hoI2 w7.heap.size HCI.out)
                    have HKB : Hid (KeepC ib w7.heap.size wq (w2.setCell ⟨ib, 0, none⟩ (.int .i64 ((pre.length : Int) + 1)))) := KeepC.only hoI2 (by omega) (fun k hk => by rw [List.mem_singleton.1 hk]; omega)
                    have cI9 := cellH IB9
                    have fI9 := frozH IB9
                    have lI9 := lt_of_H IB9
                    have cB9 := cellH (Lib.hid RF9.out.rb)
                    have cT9 := cellH (Lib.hid RF9.out.st)
                    have n1 : ib ≠ rb2 := by omega
                    have n2 : ib ≠ sS := by omega
                    have kw : IntKind.i64.wrap ((pre.length : Int) + 1) = (pre.length : Int) + 1 := by rw [IntKind.wrap_i64]; omega
                    have HQ := Lib.hid (HEI.out (fun _ => True) trivial)
                    gi_wp2_with fail
                    exact ⟨HKF.out, HKB.out, HQ.out⟩
                  · have HXP : Hid (¬ ((xs, xv), pre.length) = ((ps, pv), pre.length)) := fun h => by (have h2 := hbv.out; rw [bne_iff_ne] at h2; exact h2 (by injection h with h _; injection h))
                    try clear hb9
                    have RF9 := Lib.hid (RF8.out.below rfl (show Below wq.heap.size wq wq.drew by (repeat' (first | with_reducible exact Below.refl _ _ | with_reducible assumption | with_reducible refine Below.drew ?_ | with_reducible refine below_drewN ?_ _ | with_reducible refine Below.setCell ?_ ?_ _ | with_reducible refine Below.alloc ?_ ?_ _ | omega | (simp; done) | (simp; omega)))))
                    have hoW : OnlyL [sS + 1] wq wq.drew := OnlyL.drew (OnlyL.refl _ _)
                    clear hH0 xI xQ xP xR xB0 xB1 j0 j1
                    generalize wq.drew = w2 at RF9 hoW ⊢
                    have cR9 := cellH (Lib.hid RF9.out.rs)
                    have fzR9 := frozH (Lib.hid RF9.out.rs)
                    have lR9 := lt_of_H (Lib.hid RF9.out.rs)
                    gi_wp2_with fail
                    exact ⟨OnlyL.from (L := [sS + 1]) (OnlyL.setCell hoW (.inl (List.mem_singleton.2 rfl)) _) _ HCL.out, .inl (fun h => HXP.out (prefix_nt h HP.out))⟩
                · have e1 : (xs.toList != ps.toList) = true := bytes_ne hxs
                  have e1b : (xs.toList == ps.toList) = false := by simpa [bne] using e1
                  have HXP : Hid (¬ ((xs, xv), pre.length) = ((ps, pv), pre.length)) := fun h => hxs (by injection h with h _; injection h)
                  clear hxs
                  refine round_held_drew (S := fun w' => w'.cell? ⟨ib, 0, none⟩ = some (.int .i64 pre.length) ∧ w'.cell? ⟨zB, 0, none⟩ = some (.pointer (some ⟨pb, 0, none⟩)) ∧ w'.cell? ⟨pb, 2, none⟩ = some (.pointer (some ⟨r, 0, none⟩)) ∧ w'.cell? ⟨r, 0, none⟩ = some (.slice (some ⟨g, off, none⟩) N.length c5) ∧ w'.cell? ⟨Bp, 0, none⟩ = some (.string xs) ∧ w'.cell? ⟨Bp, 1, none⟩ = some (.int .i64 xv) ∧ w'.cell? ⟨g, off + pre.length * 2, none⟩ = some (.string ps) ∧ w'.cell? ⟨g, off + pre.length * 2 + 1, none⟩ = some (.int .i64 pv)) (by kernel_rfl) (by kernel_rfl) ?_ (fun hH0 => ?_)
                  · exact ⟨xI, xQ, xP, xR, xB0, xB1, j0, j1⟩
                  refine tkY (i := 0) (oi := q0) (v := ?_) rfl (by kernel_rfl) (fun _ _ _ h => h) (by rfl) ?_ ‹_› ?_; rotate_left
                  · intro wq hSw; simp only [q0]; (try dsimp only at hSw); go_simp; (try with_reducible rfl)
                  try simp only [q0, Act.put, s1, s2, s3]
                  refine tkY (i := 1) (oi := q1) (v := ?_) rfl (by kernel_rfl) (fun _ _ _ h => h) (by rfl) ?_ ‹_› ?_; rotate_left
                  · intro wq hSw; simp only [q1]; (try dsimp only at hSw); go_simp; (try with_reducible rfl)
                  try simp only [q1, Act.put, s1, s2, s3]
                  refine tkY (i := 2) (oi := q2) (v := ?_) rfl (by kernel_rfl) (fun _ _ _ h => h) (by rfl) ?_ ‹_› ?_; rotate_left
                  · intro wq hSw; simp only [q2]; (try dsimp only at hSw); go_simp; (try with_reducible rfl)
                  try simp only [q2, Act.put, s1, s2, s3]
                  refine tkY (i := 3) (oi := q3) (v := ?_) rfl (by kernel_rfl) (fun _ _ _ h => h) (by rfl) ?_ ‹_› ?_; rotate_left
                  · intro wq hSw; simp only [q3]; (try dsimp only at hSw); go_simp; (try with_reducible rfl)
                  try simp only [q3, Act.put, s1, s2, s3]
                  refine tkY (i := 4) (oi := q4) (v := ?_) rfl (by kernel_rfl) (fun _ _ _ h => h) (by rfl) ?_ ‹_› ?_; rotate_left
                  · intro wq hSw; simp only [q4]; (try dsimp only at hSw); go_simp; (try with_reducible rfl)
                  try simp only [q4, Act.put, s1, s2, s3]
                  refine tkY (i := 5) (oi := q5) (v := ?_) rfl (by kernel_rfl) (fun _ _ _ h => h) (by rfl) ?_ ‹_› ?_; rotate_left
                  · intro wq hSw; simp only [q5]; (try dsimp only at hSw); go_simp; (try with_reducible rfl)
                  try simp only [q5, Act.put, s1, s2, s3]
                  refine tkY (i := 6) (oi := q6) (v := ?_) rfl (by kernel_rfl) (fun _ _ _ h => h) (by rfl) ?_ ‹_› ?_; rotate_left
                  · intro wq hSw; simp only [q6]; (try dsimp only at hSw); go_simp; (try with_reducible rfl)
                  try simp only [q6, Act.put, s1, s2, s3]
                  refine tkY (i := 7) (oi := q7) (v := ?_) rfl (by kernel_rfl) (fun _ _ _ h => h) (by rfl) ?_ ‹_› ?_; rotate_left
                  · intro wq hSw; simp only [q7]; (try dsimp only at hSw); go_simp; (try with_reducible rfl)
                  try simp only [q7, Act.put, s1, s2, s3]
                  refine tkY (i := 8) (oi := q8) (v := ?_) rfl (by kernel_rfl) (fun _ _ _ h => h) (by rfl) ?_ ‹_› ?_; rotate_left
                  · intro wq hSw; simp only [q8]; (try dsimp only at hSw); go_simp; (try with_reducible rfl)
                  try simp only [q8, Act.put, s1, s2, s3]
                  refine tkY (i := 9) (oi := q9) (v := ?_) rfl (by kernel_rfl) (fun _ _ _ h => h) (by rfl) ?_ ‹_› ?_; rotate_left
                  · intro wq hSw; simp only [q9]; (try dsimp only at hSw); go_simp; (try with_reducible rfl)
                  try simp only [q9, Act.put, s1, s2, s3]
                  refine tkY (i := 10) (oi := q10) (v := ?_) rfl (by kernel_rfl) (fun _ _ _ h => h) (by rfl) ?_ ‹_› ?_; rotate_left
                  · intro wq hSw; simp only [q10]; (try dsimp only at hSw); go_simp; (try with_reducible rfl)
                  try simp only [q10, Act.put, s1, s2, s3]
                  refine tkY (i := 11) (oi := q11) (v := ?_) rfl (by kernel_rfl) (fun _ _ _ h => h) (by rfl) ?_ ‹_› ?_; rotate_left
                  · intro wq hSw; simp only [q11]; (try dsimp only at hSw); go_simp; (try with_reducible rfl)
                  try simp only [q11, Act.put, s1, s2, s3]
                  refine tkY (i := 12) (oi := q12) (v := ?_) rfl (by kernel_rfl) (fun _ _ _ h => h) (by rfl) ?_ ‹_› ?_; rotate_left
                  · intro wq hSw; simp only [q12]; (try dsimp only at hSw); go_simp; (try with_reducible rfl)
                  try simp only [q12, Act.put, s1, s2, s3]
                  refine tkY (i := 13) (oi := q13) (v := ?_) rfl (by kernel_rfl) (fun _ _ _ h => h) (by rfl) ?_ ‹_› ?_; rotate_left
                  · intro wq hSw; simp only [q13]; (try dsimp only at hSw); go_simp; (try with_reducible rfl)
                  try simp only [q13, Act.put, s1, s2, s3]
                  refine tkY (i := 14) (oi := q14) (v := ?_) rfl (by kernel_rfl) (fun _ _ _ h => h) (by rfl) ?_ ‹_› ?_; rotate_left
                  · intro wq hSw; simp only [q14]; (try dsimp only at hSw); go_simp; (try with_reducible rfl)
                  try simp only [q14, Act.put, s1, s2, s3]
                  refine tkY (i := 15) (oi := q15) (v := ?_) rfl (by kernel_rfl) (fun _ _ _ h => h) (by rfl) ?_ ‹_› ?_; rotate_left
                  · intro wq hSw; simp only [q15]; (try dsimp only at hSw); go_simp; (try with_reducible rfl)
                  try simp only [q15, Act.put, s1, s2, s3]
                  refine tkY (i := 16) (oi := q16) (v := ?_) rfl (by kernel_rfl) (fun _ _ _ h => h) (by rfl) ?_ ‹_› ?_; rotate_left
                  · intro wq hSw; simp only [q16]; (try dsimp only at hSw); go_simp; (try with_reducible rfl)
                  try simp only [q16, Act.put, s1, s2, s3]
                  refine tkY (i := 17) (oi := q17) (v := ?_) rfl (by kernel_rfl) (fun _ _ _ h => h) (by rfl) ?_ ‹_› ?_; rotate_left
                  · intro wq hSw; simp only [q17]; (try dsimp only at hSw); go_simp; (try with_reducible rfl)
                  try simp only [q17, Act.put, s1, s2, s3]
                  refine tkY (i := 18) (oi := q18) (v := ?_) rfl (by kernel_rfl) (fun _ _ _ h => h) (by rfl) ?_ ‹_› ?_; rotate_left
                  · intro wq hSw; simp only [q18]; (try dsimp only at hSw); go_simp; (try with_reducible rfl)
                  try simp only [q18, Act.put, s1, s2, s3]
                  refine tkY (i := 19) (oi := q19) (v := ?_) rfl (by kernel_rfl) (fun _ _ _ h => h) (by rfl) ?_ ‹_› ?_; rotate_left
                  · intro wq hSw; simp only [q19]; (try dsimp only at hSw); go_simp; (try with_reducible rfl)
                  try simp only [q19, Act.put, s1, s2, s3]
                  refine tkY (i := 20) (oi := q20) (v := ?_) rfl (by kernel_rfl) (fun _ _ _ h => h) (by rfl) ?_ ‹_› ?_; rotate_left
                  · intro wq hSw; simp only [q20]; (try dsimp only at hSw); go_simp; (try with_reducible rfl)
                  try simp only [q20, Act.put, s1, s2, s3]
                  refine tkY (i := 21) (oi := q21) (v := ?_) rfl (by kernel_rfl) (fun _ _ _ h => h) (by rfl) ?_ ‹_› ?_; rotate_left
                  · intro wq hSw; simp only [q21]; (try dsimp only at hSw); go_simp; (try with_reducible rfl)
                  try simp only [q21, Act.put, s1, s2, s3]
                  refine tkY (i := 22) (oi := q22) (v := ?_) rfl (by kernel_rfl) (fun _ _ _ h => h) (by rfl) ?_ ‹_› ?_; rotate_left
                  · intro wq hSw; simp only [q22]; (try dsimp only at hSw); go_simp; (try with_reducible rfl)
                  try simp only [q22, Act.put, s1, s2, s3]
                  refine tkY (i := 23) (oi := q23) (v := ?_) rfl (by kernel_rfl) (fun _ _ _ h => h) (by rfl) ?_ ‹_› ?_; rotate_left
                  · intro wq hSw; simp only [q23]; (try dsimp only at hSw); go_simp; (try with_reducible rfl)
                  try simp only [q23, Act.put, s1, s2, s3]
                  refine tkY (i := 24) (oi := q24) (v := ?_) rfl (by kernel_rfl) (fun _ _ _ h => h) (by rfl) ?_ ‹_› ?_; rotate_left
                  · intro wq hSw; simp only [q24]; (try dsimp only at hSw); go_simp; (try with_reducible rfl)
                  try simp only [q24, Act.put, s1, s2, s3]
                  refine tkY (i := 25) (oi := q25) (v := ?_) rfl (by kernel_rfl) (fun _ _ _ h => h) (by rfl) ?_ ‹_› ?_; rotate_left
                  · intro wq hSw; simp only [q25]; (try dsimp only at hSw); go_simp; (try with_reducible rfl)
                  try simp only [q25, Act.put, s1, s2, s3]
                  refine tkY (i := 26) (oi := q26) (v := ?_) rfl (by kernel_rfl) (fun _ _ _ h => h) (by rfl) ?_ ‹_› ?_; rotate_left
                  · intro wq hSw; simp only [q26]; (try dsimp only at hSw); go_simp; (try with_reducible rfl)
                  try simp only [q26, Act.put, s1, s2, s3]
                  refine tkY (i := 27) (oi := q27) (v := ?_) rfl (by kernel_rfl) (fun _ _ _ h => h) (by rfl) ?_ ‹_› ?_; rotate_left
                  · intro wq hSw; simp only [q27]; (try dsimp only at hSw); go_simp; (try with_reducible rfl)
                  try simp only [q27, Act.put, s1, s2, s3]
                  refine tkY (i := 28) (oi := q28) (v := ?_) rfl (by kernel_rfl) (fun _ _ _ h => h) (by rfl) ?_ ‹_› ?_; rotate_left
                  · intro wq hSw; simp only [q28]; (try dsimp only at hSw); go_simp; (try with_reducible rfl)
                  try simp only [q28, Act.put, s1, s2, s3]
                  refine tkY (i := 29) (oi := q29) (v := ?_) rfl (by kernel_rfl) (fun _ _ _ h => h) (by rfl) ?_ ‹_› ?_; rotate_left
                  · intro wq hSw; simp only [q29]; (try dsimp only at hSw); go_simp; (try with_reducible rfl)
                  try simp only [q29, Act.put, s1, s2, s3]
                  refine tkY (i := 30) (oi := q30) (v := ?_) rfl (by kernel_rfl) (fun _ _ _ h => h) (by rfl) ?_ ‹_› ?_; rotate_left
                  · intro wq hSw; simp only [q30]; (try dsimp only at hSw); go_simp; (try with_reducible rfl)
                  try simp only [q30, Act.put, s1, s2, s3]
                  refine tkY (i := 31) (oi := q31) (v := ?_) rfl (by kernel_rfl) (fun _ _ _ h => h) (by rfl) ?_ ‹_› ?_; rotate_left
                  · intro wq hSw; simp only [q31]; (try dsimp only at hSw); go_simp; (try with_reducible rfl)
                  try simp only [q31, Act.put, s1, s2, s3]
                  refine tkN (i := 32) (oi := q32) rfl (by kernel_rfl) (fun _ _ _ h => h) (by rfl) ‹_› ?_
                  try simp only [q32, Act.put, s1, s2, s3]
                  refine tkN (i := 33) (oi := q33) rfl (by kernel_rfl) (fun _ _ _ h => h) (by rfl) ‹_› ?_
                  try simp only [q33, Act.put, s1, s2, s3]
                  refine tkN (i := 34) (oi := q34) rfl (by kernel_rfl) (fun _ _ _ h => h) (by rfl) ‹_› ?_
                  try simp only [q34, Act.put, s1, s2, s3]
                  refine tkN (i := 35) (oi := q35) rfl (by kernel_rfl) (fun _ _ _ h => h) (by rfl) ‹_› ?_
                  try simp only [q35, Act.put, s1, s2, s3]
                  refine tkN (i := 36) (oi := q36) rfl (by kernel_rfl) (fun _ _ _ h => h) (by rfl) ‹_› ?_
                  try simp only [q36, Act.put, s1, s2, s3]
                  refine tkN (i := 37) (oi := q37) rfl (by kernel_rfl) (fun _ _ _ h => h) (by rfl) ‹_› ?_
                  try simp only [q37, Act.put, s1, s2, s3]
                  refine tkN (i := 38) (oi := q38) rfl (by kernel_rfl) (fun _ _ _ h => h) (by rfl) ‹_› ?_
                  try simp only [q38, Act.put, s1, s2, s3]
                  refine tkN (i := 39) (oi := q39) rfl (by kernel_rfl) (fun _ _ _ h => h) (by rfl) ‹_› ?_
                  try simp only [q39, Act.put, s1, s2, s3]
                  refine tkN (i := 40) (oi := q40) rfl (by kernel_rfl) (fun _ _ _ h => h) (by rfl) ‹_› ?_
                  try simp only [q40, Act.put, s1, s2, s3]
                  refine tkN (i := 41) (oi := q41) rfl (by kernel_rfl) (fun _ _ _ h => h) (by rfl) ‹_› ?_
                  try simp only [q41, Act.put, s1, s2, s3]
                  refine tkN (i := 42) (oi := q42) rfl (by kernel_rfl) (fun _ _ _ h => h) (by rfl) ‹_› ?_
                  try simp only [q42, Act.put, s1, s2, s3]
                  refine tkN (i := 43) (oi := q43) rfl (by kernel_rfl) (fun _ _ _ h => h) (by rfl) ‹_› ?_
                  try simp only [q43, Act.put, s1, s2, s3]
                  refine tkN (i := 44) (oi := q44) rfl (by kernel_rfl) (fun _ _ _ h => h) (by rfl) ‹_› ?_
                  try simp only [q44, Act.put, s1, s2, s3]
                  refine tkN (i := 45) (oi := q45) rfl (by kernel_rfl) (fun _ _ _ h => h) (by rfl) ‹_› ?_
                  try simp only [q45, Act.put, s1, s2, s3]
                  refine tkY (i := 46) (oi := q46) (v := ?_) rfl (by kernel_rfl) (fun _ _ _ h => h) (by rfl) ?_ ‹_› ?_; rotate_left
                  · intro wq hSw; simp only [q46]; (try dsimp only at hSw); go_simp; (try with_reducible rfl)
                  try simp only [q46, Act.put, s1, s2, s3]
                  refine wpAnyH_done (by kernel_rfl) ?_ _
                  refine noOut_normal ?_
                  have RF9 := Lib.hid (RF8.out.below rfl (show Below wq.heap.size wq wq.drew by (repeat' (first | with_reducible exact Below.refl _ _ | with_reducible assumption | with_reducible refine Below.drew ?_ | with_reducible refine below_drewN ?_ _ | with_reducible refine Below.setCell ?_ ?_ _ | with_reducible refine Below.alloc ?_ ?_ _ | omega | (simp; done) | (simp; omega)))))
                  have hoW : OnlyL [sS + 1] wq wq.drew := OnlyL.drew (OnlyL.refl _ _)
                  clear hH0 xI xQ xP xR xB0 xB1 j0 j1
                  generalize wq.drew = w2 at RF9 hoW ⊢
                  have cR9 := cellH (Lib.hid RF9.out.rs)
                  have fzR9 := frozH (Lib.hid RF9.out.rs)
                  have lR9 := lt_of_H (Lib.hid RF9.out.rs)
                  gi_wp2_with fail
                  exact ⟨OnlyL.from (L := [sS + 1]) (OnlyL.setCell hoW (.inl (List.mem_singleton.2 rfl)) _) _ HCL.out, .inl (fun h => HXP.out (prefix_nt h HP.out))⟩
              · have e0 : ((xi : Int) != (pre.length : Int)) = true := by rw [bne_iff_ne]; omega
                have HXP : Hid (¬ ((xs, xv), xi) = ((ps, pv), pre.length)) := fun h => hxi (by injection h)
                clear hxi
                refine round_held_drew (S := fun w' => w'.cell? ⟨ib, 0, none⟩ = some (.int .i64 pre.length) ∧ w'.cell? ⟨zB, 0, none⟩ = some (.pointer (some ⟨pb, 0, none⟩)) ∧ w'.cell? ⟨pb, 2, none⟩ = some (.pointer (some ⟨r, 0, none⟩)) ∧ w'.cell? ⟨r, 0, none⟩ = some (.slice (some ⟨g, off, none⟩) N.length c5) ∧ w'.cell? ⟨Bp, 0, none⟩ = some (.string xs) ∧ w'.cell? ⟨Bp, 1, none⟩ = some (.int .i64 xv) ∧ w'.cell? ⟨g, off + pre.length * 2, none⟩ = some (.string ps) ∧ w'.cell? ⟨g, off + pre.length * 2 + 1, none⟩ = some (.int .i64 pv)) (by kernel_rfl) (by kernel_rfl) ?_ (fun hH0 => ?_)
                · exact ⟨xI, xQ, xP, xR, xB0, xB1, j0, j1⟩
                refine tkY (i := 0) (oi := q0) (v := ?_) rfl (by kernel_rfl) (fun _ _ _ h => h) (by rfl) ?_ ‹_› ?_; rotate_left
                · intro wq hSw; simp only [q0]; (try dsimp only at hSw); go_simp; (try with_reducible rfl)
                try simp only [q0, Act.put, s1, s2, s3]
                refine tkY (i := 1) (oi := q1) (v := ?_) rfl (by kernel_rfl) (fun _ _ _ h => h) (by rfl) ?_ ‹_› ?_; rotate_left
                · intro wq hSw; simp only [q1]; (try dsimp only at hSw); go_simp; (try with_reducible rfl)
                try simp only [q1, Act.put, s1, s2, s3]
                refine tkY (i := 2) (oi := q2) (v := ?_) rfl (by kernel_rfl) (fun _ _ _ h => h) (by rfl) ?_ ‹_› ?_; rotate_left
                · intro wq hSw; simp only [q2]; (try dsimp only at hSw); go_simp; (try with_reducible rfl)
                try simp only [q2, Act.put, s1, s2, s3]
                refine tkY (i := 3) (oi := q3) (v := ?_) rfl (by kernel_rfl) (fun _ _ _ h => h) (by rfl) ?_ ‹_› ?_; rotate_left
                · intro wq hSw; simp only [q3]; (try dsimp only at hSw); go_simp; (try with_reducible rfl)
                try simp only [q3, Act.put, s1, s2, s3]
                refine tkY (i := 4) (oi := q4) (v := ?_) rfl (by kernel_rfl) (fun _ _ _ h => h) (by rfl) ?_ ‹_› ?_; rotate_left
                · intro wq hSw; simp only [q4]; (try dsimp only at hSw); go_simp; (try with_reducible rfl)
                try simp only [q4, Act.put, s1, s2, s3]
                refine tkY (i := 5) (oi := q5) (v := ?_) rfl (by kernel_rfl) (fun _ _ _ h => h) (by rfl) ?_ ‹_› ?_; rotate_left
                · intro wq hSw; simp only [q5]; (try dsimp only at hSw); go_simp; (try with_reducible rfl)
                try simp only [q5, Act.put, s1, s2, s3]
                refine tkY (i := 6) (oi := q6) (v := ?_) rfl (by kernel_rfl) (fun _ _ _ h => h) (by rfl) ?_ ‹_› ?_; rotate_left
                · intro wq hSw; simp only [q6]; (try dsimp only at hSw); go_simp; (try with_reducible rfl)
                try simp only [q6, Act.put, s1, s2, s3]
                refine tkY (i := 7) (oi := q7) (v := ?_) rfl (by kernel_rfl) (fun _ _ _ h => h) (by rfl) ?_ ‹_› ?_; rotate_left
                · intro wq hSw; simp only [q7]; (try dsimp only at hSw); go_simp; (try with_reducible rfl)
                try simp only [q7, Act.put, s1, s2, s3]
                refine tkY (i := 8) (oi := q8) (v := ?_) rfl (by kernel_rfl) (fun _ _ _ h => h) (by rfl) ?_ ‹_› ?_; rotate_left
                · intro wq hSw; simp only [q8]; (try dsimp only at hSw); go_simp; (try with_reducible rfl)
                try simp only [q8, Act.put, s1, s2, s3]
                refine tkY (i := 9) (oi := q9) (v := ?_) rfl (by kernel_rfl) (fun _ _ _ h => h) (by rfl) ?_ ‹_› ?_; rotate_left
                · intro wq hSw; simp only [q9]; (try dsimp only at hSw); go_simp; (try with_reducible rfl)
                try simp only [q9, Act.put, s1, s2, s3]
                refine tkY (i := 10) (oi := q10) (v := ?_) rfl (by kernel_rfl) (fun _ _ _ h => h) (by rfl) ?_ ‹_› ?_; rotate_left
                · intro wq hSw; simp only [q10]; (try dsimp only at hSw); go_simp; (try with_reducible rfl)
                try simp only [q10, Act.put, s1, s2, s3]
                refine tkY (i := 11) (oi := q11) (v := ?_) rfl (by kernel_rfl) (fun _ _ _ h => h) (by rfl) ?_ ‹_› ?_; rotate_left
                · intro wq hSw; simp only [q11]; (try dsimp only at hSw); go_simp; (try with_reducible rfl)
                try simp only [q11, Act.put, s1, s2, s3]
                refine tkY (i := 12) (oi := q12) (v := ?_) rfl (by kernel_rfl) (fun _ _ _ h => h) (by rfl) ?_ ‹_› ?_; rotate_left
                · intro wq hSw; simp only [q12]; (try dsimp only at hSw); go_simp; (try with_reducible rfl)
                try simp only [q12, Act.put, s1, s2, s3]
                refine tkY (i := 13) (oi := q13) (v := ?_) rfl (by kernel_rfl) (fun _ _ _ h => h) (by rfl) ?_ ‹_› ?_; rotate_left
                · intro wq hSw; simp only [q13]; (try dsimp only at hSw); go_simp; (try with_reducible rfl)
                try simp only [q13, Act.put, s1, s2, s3]
                refine tkY (i := 14) (oi := q14) (v := ?_) rfl (by kernel_rfl) (fun _ _ _ h => h) (by rfl) ?_ ‹_› ?_; rotate_left
                · intro wq hSw; simp only [q14]; (try dsimp only at hSw); go_simp; (try with_reducible rfl)
                try simp only [q14, Act.put, s1, s2, s3]
                refine tkY (i := 15) (oi := q15) (v := ?_) rfl (by kernel_rfl) (fun _ _ _ h => h) (by rfl) ?_ ‹_› ?_; rotate_left
                · intro wq hSw; simp only [q15]; (try dsimp only at hSw); go_simp; (try with_reducible rfl)
                try simp only [q15, Act.put, s1, s2, s3]
                refine tkN (i := 16) (oi := q16) rfl (by kernel_rfl) (fun _ _ _ h => h) (by rfl) ‹_› ?_
                try simp only [q16, Act.put, s1, s2, s3]
                refine tkN (i := 17) (oi := q17) rfl (by kernel_rfl) (fun _ _ _ h => h) (by rfl) ‹_› ?_
                try simp only [q17, Act.put, s1, s2, s3]
                refine tkN (i := 18) (oi := q18) rfl (by kernel_rfl) (fun _ _ _ h => h) (by rfl) ‹_› ?_
                try simp only [q18, Act.put, s1, s2, s3]
                refine tkN (i := 19) (oi := q19) rfl (by kernel_rfl) (fun _ _ _ h => h) (by rfl) ‹_› ?_
                try simp only [q19, Act.put, s1, s2, s3]
                refine tkN (i := 20) (oi := q20) rfl (by kernel_rfl) (fun _ _ _ h => h) (by rfl) ‹_› ?_
                try simp only [q20, Act.put, s1, s2, s3]
                refine tkN (i := 21) (oi := q21) rfl (by kernel_rfl) (fun _ _ _ h => h) (by rfl) ‹_› ?_
                try simp only [q21, Act.put, s1, s2, s3]
                refine tkN (i := 22) (oi := q22) rfl (by kernel_rfl) (fun _ _ _ h => h) (by rfl) ‹_› ?_
                try simp only [q22, Act.put, s1, s2, s3]
                refine tkN (i := 23) (oi := q23) rfl (by kernel_rfl) (fun _ _ _ h => h) (by rfl) ‹_› ?_
                try simp only [q23, Act.put, s1, s2, s3]
                refine tkN (i := 24) (oi := q24) rfl (by kernel_rfl) (fun _ _ _ h => h) (by rfl) ‹_› ?_
                try simp only [q24, Act.put, s1, s2, s3]
                refine tkN (i := 25) (oi := q25) rfl (by kernel_rfl) (fun _ _ _ h => h) (by rfl) ‹_› ?_
                try simp only [q25, Act.put, s1, s2, s3]
                refine tkN (i := 26) (oi := q26) rfl (by kernel_rfl) (fun _ _ _ h => h) (by rfl) ‹_› ?_
                try simp only [q26, Act.put, s1, s2, s3]
                refine tkN (i := 27) (oi := q27) rfl (by kernel_rfl) (fun _ _ _ h => h) (by rfl) ‹_› ?_
                try simp only [q27, Act.put, s1, s2, s3]
                refine tkN (i := 28) (oi := q28) rfl (by kernel_rfl) (fun _ _ _ h => h) (by rfl) ‹_› ?_
                try simp only [q28, Act.put, s1, s2, s3]
                refine tkN (i := 29) (oi := q29) rfl (by kernel_rfl) (fun _ _ _ h => h) (by rfl) ‹_› ?_
                try simp only [q29, Act.put, s1, s2, s3]
                refine tkY (i := 30) (oi := q30) (v := ?_) rfl (by kernel_rfl) (fun _ _ _ h => h) (by rfl) ?_ ‹_› ?_; rotate_left
                · intro wq hSw; simp only [q30]; (try dsimp only at hSw); go_simp; (try with_reducible rfl)
                try simp only [q30, Act.put, s1, s2, s3]
                refine tkY (i := 31) (oi := q31) (v := ?_) rfl (by kernel_rfl) (fun _ _ _ h => h) (by rfl) ?_ ‹_› ?_; rotate_left
                · intro wq hSw; simp only [q31]; (try dsimp only at hSw); go_simp; (try with_reducible rfl)
                try simp only [q31, Act.put, s1, s2, s3]
                refine tkN (i := 32) (oi := q32) rfl (by kernel_rfl) (fun _ _ _ h => h) (by rfl) ‹_› ?_
                try simp only [q32, Act.put, s1, s2, s3]
                refine tkN (i := 33) (oi := q33) rfl (by kernel_rfl) (fun _ _ _ h => h) (by rfl) ‹_› ?_
                try simp only [q33, Act.put, s1, s2, s3]
                refine tkN (i := 34) (oi := q34) rfl (by kernel_rfl) (fun _ _ _ h => h) (by rfl) ‹_› ?_
                try simp only [q34, Act.put, s1, s2, s3]
                refine tkN (i := 35) (oi := q35) rfl (by kernel_rfl) (fun _ _ _ h => h) (by rfl) ‹_› ?_
                try simp only [q35, Act.put, s1, s2, s3]
                refine tkN (i := 36) (oi := q36) rfl (by kernel_rfl) (fun _ _ _ h => h) (by rfl) ‹_› ?_
                try simp only [q36, Act.put, s1, s2, s3]
                refine tkN (i := 37) (oi := q37) rfl (by kernel_rfl) (fun _ _ _ h => h) (by rfl) ‹_› ?_
                try simp only [q37, Act.put, s1, s2, s3]
                refine tkN (i := 38) (oi := q38) rfl (by kernel_rfl) (fun _ _ _ h => h) (by rfl) ‹_› ?_
                try simp only [q38, Act.put, s1, s2, s3]
                refine tkN (i := 39) (oi := q39) rfl (by kernel_rfl) (fun _ _ _ h => h) (by rfl) ‹_› ?_
                try simp only [q39, Act.put, s1, s2, s3]
                refine tkN (i := 40) (oi := q40) rfl (by kernel_rfl) (fun _ _ _ h => h) (by rfl) ‹_› ?_
                try simp only [q40, Act.put, s1, s2, s3]
                refine tkN (i := 41) (oi := q41) rfl (by kernel_rfl) (fun _ _ _ h => h) (by rfl) ‹_› ?_
                try simp only [q41, Act.put, s1, s2, s3]
                refine tkN (i := 42) (oi := q42) rfl (by kernel_rfl) (fun _ _ _ h => h) (by rfl) ‹_› ?_
                try simp only [q42, Act.put, s1, s2, s3]
                refine tkN (i := 43) (oi := q43) rfl (by kernel_rfl) (fun _ _ _ h => h) (by rfl) ‹_› ?_
                try simp only [q43, Act.put, s1, s2, s3]
                refine tkN (i := 44) (oi := q44) rfl (by kernel_rfl) (fun _ _ _ h => h) (by rfl) ‹_› ?_
                try simp only [q44, Act.put, s1, s2, s3]
                refine tkN (i := 45) (oi := q45) rfl (by kernel_rfl) (fun _ _ _ h => h) (by rfl) ‹_› ?_
                try simp only [q45, Act.put, s1, s2, s3]
                refine tkY (i := 46) (oi := q46) (v := ?_) rfl (by kernel_rfl) (fun _ _ _ h => h) (by rfl) ?_ ‹_› ?_; rotate_left
                · intro wq hSw; simp only [q46]; (try dsimp only at hSw); go_simp; (try with_reducible rfl)
                try simp only [q46, Act.put, s1, s2, s3]
                refine wpAnyH_done (by kernel_rfl) ?_ _
                refine noOut_normal ?_
                have RF9 := Lib.hid (RF8.out.below rfl (show Below wq.heap.size wq wq.drew by (repeat' (first | with_reducible exact Below.refl _ _ | with_reducible assumption | with_reducible refine Below.drew ?_ | with_reducible refine below_drewN ?_ _ | with_reducible refine Below.setCell ?_ ?_ _ | with_reducible refine Below.alloc ?_ ?_ _ | omega | (simp; done) | (simp; omega)))))
                have hoW : OnlyL [sS + 1] wq wq.drew := OnlyL.drew (OnlyL.refl _ _)
                clear hH0 xI xQ xP xR xB0 xB1 j0 j1
                generalize wq.drew = w2 at RF9 hoW ⊢
                have cR9 := cellH (Lib.hid RF9.out.rs)
                have fzR9 := frozH (Lib.hid RF9.out.rs)
                have lR9 := lt_of_H (Lib.hid RF9.out.rs)
                gi_wp2_with fail
                exact ⟨OnlyL.from (L := [sS + 1]) (OnlyL.setCell hoW (.inl (List.mem_singleton.2 rfl)) _) _ HCL.out, .inl (fun h => HXP.out (prefix_nt h HP.out))⟩
            case done2 =>
              intro D2 xs W hD2 hxs hI hK
              rw [hxs] at hI
              obtain ⟨i1, i2, i3, i4⟩ := hI
              rw [List.length_zipIdx] at i1
              try rw [List.length_zipIdx] at i4
              subst ha
              have hB6 : Below ib w62 W := h67.trans i2
              have RF8 := Lib.hid (HRF2.out.below HIB.out hB6)
              have IB8 : Hid (W.heap[ib]? = some (.cells #[.int .i64 N.length] 3 (0, 0))) := i1
              have KD2c := Lib.hid hK
              have hw8 : Below w.heap.size w W := hw62.trans (hB6.mono zw6)
              have zW := hB6.size
              have KD0c : Hid (W.heap[D0]? = _) := (hB6.block _ lD0).trans KD0.out
              have KD1c : Hid (W.heap[D1]? = _) := (hB6.block _ lD1).trans KD1.out
              clear i1 i2 i3 hK hxs hB6
              have xI : W.cell? ⟨ib, 0, none⟩ = some (.int .i64 N.length) := cellH IB8 0
              have xB : W.cell? ⟨rb2, 0, none⟩ = some (.int .i64 2) := cellH (Lib.hid RF8.out.rb) 0
              have xQ : W.cell? ⟨zB, 0, none⟩ = some (.pointer (some ⟨pb, 0, none⟩)) := cellH (Lib.hid RF8.out.qb) 0
              have xP : W.cell? ⟨pb, 2, none⟩ = some (.pointer (some ⟨r, 0, none⟩)) := RF8.out.pl.bx.cell 2
              have xR : W.cell? ⟨r, 0, none⟩ = some (.slice A5 N.length c5) := cellH (Lib.hid RF8.out.pl.pr.rl.box) 0
              have xT : W.cell? ⟨sS, 0, none⟩ = some (.int .i64 stop) := cellH (Lib.hid RF8.out.st) 0
              have e6 : ((N.length : Int) != (N.length : Int)) = false := bne_self_eq_false _
              gi_wp2_with fail
              refine (wpIn_wide (n := 3)).2 ?_
              refine wp_onlyN ?_
              refine wp_region_held_drew (S := fun w' => w'.cell? ⟨ib, 0, none⟩ = some (.int .i64 N.length) ∧ w'.cell? ⟨rb2, 0, none⟩ = some (.int .i64 2) ∧ w'.cell? ⟨zB, 0, none⟩ = some (.pointer (some ⟨pb, 0, none⟩)) ∧ w'.cell? ⟨pb, 2, none⟩ = some (.pointer (some ⟨r, 0, none⟩)) ∧ w'.cell? ⟨r, 0, none⟩ = some (.slice A5 N.length c5) ∧ w'.cell? ⟨sS, 0, none⟩ = some (.int .i64 stop)) (by kernel_rfl) ?_ (fun hH0 => ?_)
              · exact ⟨xI, xB, xQ, xP, xR, xT⟩
              refine tkY (i := 0) (oi := y0) (v := ?_) rfl (by kernel_rfl) (fun _ _ _ h => h) (by rfl) ?_ ‹_› ?_; rotate_left
              · intro wq hSw; simp only [y0]; (try dsimp only at hSw); go_simp; (try with_reducible rfl)
              try simp only [y0, Act.put, s1, s2, s3]
              refine tkY (i := 1) (oi := y1) (v := ?_) rfl (by kernel_rfl) (fun _ _ _ h => h) (by rfl) ?_ ‹_› ?_; rotate_left
              · intro wq hSw; simp only [y1]; (try dsimp only at hSw); go_simp; (try with_reducible rfl)
              try simp only [y1, Act.put, s1, s2, s3]
              refine tkY (i := 2) (oi := y2) (v := ?_) rfl (by kernel_rfl) (fun _ _ _ h => h) (by rfl) ?_ ‹_› ?_; rotate_left
              · intro wq hSw; simp only [y2]; (try dsimp only at hSw); go_simp; (try with_reducible rfl)
              try simp only [y2, Act.put, s1, s2, s3]
              refine tkY (i := 3) (oi := y3) (v := ?_) rfl (by kernel_rfl) (fun _ _ _ h => h) (by rfl) ?_ ‹_› ?_; rotate_left
              · intro wq hSw; simp only [y3]; (try dsimp only at hSw); go_simp; (try with_reducible rfl)
              try simp only [y3, Act.put, s1, s2, s3]
              refine tkY (i := 4) (oi := y4) (v := ?_) rfl (by kernel_rfl) (fun _ _ _ h => h) (by rfl) ?_ ‹_› ?_; rotate_left
              · intro wq hSw; simp only [y4]; (try dsimp only at hSw); go_simp; (try with_reducible rfl)
              try simp only [y4, Act.put, s1, s2, s3]
              refine tkY (i := 5) (oi := y5) (v := ?_) rfl (by kernel_rfl) (fun _ _ _ h => h) (by rfl) ?_ ‹_› ?_; rotate_left
              · intro wq hSw; simp only [y5]; (try dsimp only at hSw); go_simp; (try with_reducible rfl)
              try simp only [y5, Act.put, s1, s2, s3]
              refine tkY (i := 6) (oi := y6) (v := ?_) rfl (by kernel_rfl) (fun _ _ _ h => h) (by rfl) ?_ ‹_› ?_; rotate_left
              · intro wq hSw; simp only [y6]; (try dsimp only at hSw); go_simp; (try with_reducible rfl)
              try simp only [y6, Act.put, s1, s2, s3]
              refine tkY (i := 7) (oi := y7) (v := ?_) rfl (by kernel_rfl) (fun _ _ _ h => h) (by rfl) ?_ ‹_› ?_; rotate_left
              · intro wq hSw; simp only [y7]; (try dsimp only at hSw); go_simp; (try with_reducible rfl)
              try simp only [y7, Act.put, s1, s2, s3]
              refine tkY (i := 8) (oi := y8) (v := ?_) rfl (by kernel_rfl) (fun _ _ _ h => h) (by rfl) ?_ ‹_› ?_; rotate_left
              · intro wq hSw; simp only [y8]; (try dsimp only at hSw); go_simp; (try with_reducible rfl)
              try simp only [y8, Act.put, s1, s2, s3]
              refine tkY (i := 9) (oi := y9) (v := ?_) rfl (by kernel_rfl) (fun _ _ _ h => h) (by rfl) ?_ ‹_› ?_; rotate_left
              · intro wq hSw; simp only [y9]; (try dsimp only at hSw); go_simp; (try with_reducible rfl)
              try simp only [y9, Act.put, s1, s2, s3]
              refine tkY (i := 10) (oi := y10) (v := ?_) rfl (by kernel_rfl) (fun _ _ _ h => h) (by rfl) ?_ ‹_› ?_; rotate_left
              · intro wq hSw; simp only [y10]; (try dsimp only at hSw); go_simp; (try with_reducible rfl)
              try simp only [y10, Act.put, s1, s2, s3]
              refine tkY (i := 11) (oi := y11) (v := ?_) rfl (by kernel_rfl) (fun _ _ _ h => h) (by rfl) ?_ ‹_› ?_; rotate_left
              · intro wq hSw; simp only [y11]; (try dsimp only at hSw); go_simp; (try with_reducible rfl)
              try simp only [y11, Act.put, s1, s2, s3]
              refine tkY (i := 12) (oi := y12) (v := ?_) rfl (by kernel_rfl) (fun _ _ _ h => h) (by rfl) ?_ ‹_› ?_; rotate_left
              · intro wq hSw; simp only [y12]; (try dsimp only at hSw); go_simp; (try with_reducible rfl)
              try simp only [y12, Act.put, s1, s2, s3]
              refine tkY (i := 13) (oi := y13) (v := ?_) rfl (by kernel_rfl) (fun _ _ _ h => h) (by rfl) ?_ ‹_› ?_; rotate_left
              · intro wq hSw; simp only [y13]; (try dsimp only at hSw); go_simp; (try with_reducible rfl)
              try simp only [y13, Act.put, s1, s2, s3]
              refine tkY (i := 14) (oi := y14) (v := ?_) rfl (by kernel_rfl) (fun _ _ _ h => h) (by rfl) ?_ ‹_› ?_; rotate_left
              · intro wq hSw; simp only [y14]; (try dsimp only at hSw); go_simp; (try with_reducible rfl)
              try simp only [y14, Act.put, s1, s2, s3]
              refine tkY (i := 15) (oi := y15) (v := ?_) rfl (by kernel_rfl) (fun _ _ _ h => h) (by rfl) ?_ ‹_› ?_; rotate_left
              · intro wq hSw; simp only [y15]; (try dsimp only at hSw); go_simp; (try with_reducible rfl)
              try simp only [y15, Act.put, s1, s2, s3]
              refine tkY (i := 16) (oi := y16) (v := ?_) rfl (by kernel_rfl) (fun _ _ _ h => h) (by rfl) ?_ ‹_› ?_; rotate_left
              · intro wq hSw; simp only [y16]; (try dsimp only at hSw); go_simp; (try with_reducible rfl)
              try simp only [y16, Act.put, s1, s2, s3]
              refine tkY (i := 17) (oi := y17) (v := ?_) rfl (by kernel_rfl) (fun _ _ _ h => h) (by rfl) ?_ ‹_› ?_; rotate_left
              · intro wq hSw; simp only [y17]; (try dsimp only at hSw); go_simp; (try with_reducible rfl)
              try simp only [y17, Act.put, s1, s2, s3]
              refine tkN (i := 18) (oi := y18) rfl (by kernel_rfl) (fun _ _ _ h => h) (by rfl) ‹_› ?_
              try simp only [y18, Act.put, s1, s2, s3]
              refine tkN (i := 19) (oi := y19) rfl (by kernel_rfl) (fun _ _ _ h => h) (by rfl) ‹_› ?_
              try simp only [y19, Act.put, s1, s2, s3]
              refine tkY (i := 20) (oi := y20) (v := ?_) rfl (by kernel_rfl) (fun _ _ _ h => h) (by rfl) ?_ ‹_› ?_; rotate_left
              · intro wq hSw; simp only [y20]; (try dsimp only at hSw); go_simp; (try with_reducible rfl)
              try simp only [y20, Act.put, s1, s2, s3]
              refine tkY (i := 21) (oi := y21) (v := ?_) rfl (by kernel_rfl) (fun _ _ _ h => h) (by rfl) ?_ ‹_› ?_; rotate_left
              · intro wq hSw; simp only [y21]; (try dsimp only at hSw); go_simp; (try with_reducible rfl)
              try simp only [y21, Act.put, s1, s2, s3]
              refine tkN (i := 22) (oi := y22) rfl (by kernel_rfl) (fun _ _ _ h => h) (by rfl) ‹_› ?_
              try simp only [y22, Act.put, s1, s2, s3]
              refine tkN (i := 23) (oi := y23) rfl (by kernel_rfl) (fun _ _ _ h => h) (by rfl) ‹_› ?_
              try simp only [y23, Act.put, s1, s2, s3]
              refine tkN (i := 24) (oi := y24) rfl (by kernel_rfl) (fun _ _ _ h => h) (by rfl) ‹_› ?_
              try simp only [y24, Act.put, s1, s2, s3]
              refine tkN (i := 25) (oi := y25) rfl (by kernel_rfl) (fun _ _ _ h => h) (by rfl) ‹_› ?_
              try simp only [y25, Act.put, s1, s2, s3]
              refine tkN (i := 26) (oi := y26) rfl (by kernel_rfl) (fun _ _ _ h => h) (by rfl) ‹_› ?_
              try simp only [y26, Act.put, s1, s2, s3]
              refine tkN (i := 27) (oi := y27) rfl (by kernel_rfl) (fun _ _ _ h => h) (by rfl) ‹_› ?_
              try simp only [y27, Act.put, s1, s2, s3]
              refine tkN (i := 28) (oi := y28) rfl (by kernel_rfl) (fun _ _ _ h => h) (by rfl) ‹_› ?_
              try simp only [y28, Act.put, s1, s2, s3]
              refine tkN (i := 29) (oi := y29) rfl (by kernel_rfl) (fun _ _ _ h => h) (by rfl) ‹_› ?_
              try simp only [y29, Act.put, s1, s2, s3]
              refine tkN (i := 30) (oi := y30) rfl (by kernel_rfl) (fun _ _ _ h => h) (by rfl) ‹_› ?_
              try simp only [y30, Act.put, s1, s2, s3]
              refine tkN (i := 31) (oi := y31) rfl (by kernel_rfl) (fun _ _ _ h => h) (by rfl) ‹_› ?_
              try simp only [y31, Act.put, s1, s2, s3]
              refine tkN (i := 32) (oi := y32) rfl (by kernel_rfl) (fun _ _ _ h => h) (by rfl) ‹_› ?_
              try simp only [y32, Act.put, s1, s2, s3]
              refine tkN (i := 33) (oi := y33) rfl (by kernel_rfl) (fun _ _ _ h => h) (by rfl) ‹_› ?_
              try simp only [y33, Act.put, s1, s2, s3]
              refine tkY (i := 34) (oi := y34) (v := ?_) rfl (by kernel_rfl) (fun _ _ _ h => h) (by rfl) ?_ ‹_› ?_; rotate_left
              · intro wq hSw; simp only [y34]; (try dsimp only at hSw); go_simp; (try with_reducible rfl)
              try simp only [y34, Act.put, s1, s2, s3]
              refine tkY (i := 35) (oi := y35) (v := ?_) rfl (by kernel_rfl) (fun _ _ _ h => h) (by rfl) ?_ ‹_› ?_; rotate_left
              · intro wq hSw; simp only [y35]; (try dsimp only at hSw); go_simp; (try with_reducible rfl)
              try simp only [y35, Act.put, s1, s2, s3]
              refine wpAnyH_done (by kernel_rfl) ?_ _
              refine onlyN_normal ?_
              clear hH0 xI xB xQ xP xR xT e6 i4
              have hdn : Below W.heap.size W W.drew := by (repeat' (first | with_reducible exact Below.refl _ _ | with_reducible assumption | with_reducible refine Below.drew ?_ | with_reducible refine below_drewN ?_ _ | with_reducible refine Below.setCell ?_ ?_ _ | with_reducible refine Below.alloc ?_ ?_ _ | omega | (simp; done) | (simp; omega)))

              have RFn := Lib.hid (RF8.out.below rfl hdn)
              have hwn : Below w.heap.size w W.drew := hw8.trans (hdn.mono hw8.size)
              have znW := hdn.size
              have KD0n : Hid (W.drew.heap[D0]? = _) := (hdn.block _ (Array.getElem?_eq_some_iff.1 KD0c.out).1).trans KD0c.out
              have KD1n : Hid (W.drew.heap[D1]? = _) := (hdn.block _ (Array.getElem?_eq_some_iff.1 KD1c.out).1).trans KD1c.out
              have KD2n : Hid (W.drew.heap[D2]? = _) := (hdn.block _ (Array.getElem?_eq_some_iff.1 KD2c.out).1).trans KD2c.out
              clear RF8 IB8 hw8 hdn KD0c KD1c KD2c
              generalize W.drew = Wn at RFn hwn znW KD0n KD1n KD2n ⊢
              have cRB := cellH (Lib.hid RFn.out.rb)
              have cQB := cellH (Lib.hid RFn.out.qb)
              have cPB := cellH (Lib.hid RFn.out.pl.bx.2)
              gi_wp2_with fail
              have zn9 := hwn.size
              have zn8 := (Array.getElem?_eq_some_iff.1 RFn.out.qb).1
              have HRF3 : Hid (RF b E m L P U r pb rv _ _ N um sS zB Bx Wn.heap.size stop 3 (Wn.alloc (.cells #[.int .i64 3] 3))) := RFn.out.round (by (repeat' (first | with_reducible exact Below.refl _ _ | with_reducible assumption | with_reducible refine Below.drew ?_ | with_reducible refine below_drewN ?_ _ | with_reducible refine Below.setCell ?_ ?_ _ | with_reducible refine Below.alloc ?_ ?_ _ | omega | (simp; done) | (simp; omega)))) (blk_new rfl)
              have hw63 : Below w.heap.size w (Wn.alloc (.cells #[.int .i64 3] 3)) := by (repeat' (first | with_reducible exact Below.refl _ _ | with_reducible assumption | with_reducible refine Below.drew ?_ | with_reducible refine below_drewN ?_ _ | with_reducible refine Below.setCell ?_ ?_ _ | with_reducible refine Below.alloc ?_ ?_ _ | omega | (simp; done) | (simp; omega)))
              have hu63 : Wn.heap.size < (Wn.alloc (.cells #[.int .i64 3] 3)).heap.size := by simp
              have hqb3 : zB < (Wn.alloc (.cells #[.int .i64 3] 3)).heap.size := by omega
              replace KD0 := Lib.hid (blk_old (o := (.cells #[.int .i64 3] 3)) KD0n.out)
              replace KD1 := Lib.hid (blk_old (o := (.cells #[.int .i64 3] 3)) KD1n.out)
              have KD2 := Lib.hid (blk_old (o := (.cells #[.int .i64 3] 3)) KD2n.out)
              have hrbz0 : zB ≤ Wn.heap.size := Nat.le_of_lt zn8
              obtain ⟨rb3, hrb⟩ : ∃ x, Wn.heap.size = x := ⟨_, rfl⟩
              clear RFn hwn cRB
              generalize (Wn.alloc (.cells #[.int .i64 3] 3)) = w63 at HRF3 hw63 hu63 hqb3 KD0 KD1 KD2 ⊢
              rw [hrb] at HRF3 hu63 hrbz0 ⊢
              clear hrb
              have cRB := cellH (Lib.hid HRF3.out.rb)
              rw [roundsIn_succ]

              have cR := cellH (Lib.hid HRF3.out.rs)
              have fzR := frozH (Lib.hid HRF3.out.rs)
              have lRR := lt_of_H (Lib.hid HRF3.out.rs)
              gi_wp2_with fail
              have k2 : (w63.setCell ⟨sS + 1, 0, none⟩ (.bool true)).heap[D2]? = some (.deferred (some [])) := (KeepsOthers.setCell _ _ _).same D2 _ KD2.out rfl
              have k1 : ((w63.setCell ⟨sS + 1, 0, none⟩ (.bool true)).putObj D2 (.deferred none)).heap[D1]? = some (.deferred (some [])) := (World.putObj_heap_other (by omega)).trans ((KeepsOthers.setCell _ _ _).same D1 _ KD1.out rfl)
              have k0 : (((w63.setCell ⟨sS + 1, 0, none⟩ (.bool true)).putObj D2 (.deferred none)).putObj D1 (.deferred none)).heap[D0]? = some (.deferred (some [])) := (World.putObj_heap_other (by omega)).trans ((World.putObj_heap_other (by omega)).trans ((KeepsOthers.setCell _ _ _).same D0 _ KD0.out rfl))
              have HR : Hid (((((w63.setCell ⟨sS + 1, 0, none⟩ (.bool true)).putObj D2 (.deferred none)).putObj D1 (.deferred none)).putObj D0 (.deferred none)).heap[sS + 1]? = some (.cells #[.bool true] 4 (0, 0))) := (World.putObj_heap_other (by omega)).trans ((World.putObj_heap_other (by omega)).trans ((World.putObj_heap_other (by omega)).trans (setBox HRF3.out.rs _)))
              have hB : Below w.heap.size w ((((w63.setCell ⟨sS + 1, 0, none⟩ (.bool true)).putObj D2 (.deferred none)).putObj D1 (.deferred none)).putObj D0 (.deferred none)) := Below.trans (Below.trans (Below.trans (hw63.setCell (by have := HSS.out; simp; omega) _) (belowK_b (w := w) (Nat.le_refl _) _ D2 _ _ (by have := HSS.out; omega) k2 rfl rfl)) (belowK_b (w := w) (Nat.le_refl _) _ D1 _ _ (by have := HSS.out; omega) k1 rfl rfl)) (belowK_b (w := w) (Nat.le_refl _) _ D0 _ _ (by have := HSS.out; omega) k0 rfl rfl)
              refine ⟨by simp, .inl ⟨_, _, rfl, run_takeDeferred k2, ⟨by simp, .inl ⟨_, _, rfl, run_takeDeferred k1, ⟨by simp, .inl ⟨_, _, rfl, run_takeDeferred k0, ?_⟩⟩⟩⟩⟩⟩
              clear k2 k1 k0
              generalize ((((w63.setCell ⟨sS + 1, 0, none⟩ (.bool true)).putObj D2 (.deferred none)).putObj D1 (.deferred none)).putObj D0 (.deferred none)) = wz at HR hB ⊢
              have c4 := cellH HR
              exact ⟨_, (by simp [results, Tryd.results6, go_sem, c4]), rfl, hB⟩
            case stop2 =>
              rintro D2 c pre W hD hpre hX hK
              rcases hX with h | ⟨h1, _, _⟩
              · exact absurd hpre h
              · omega
  case stop0 =>
    rintro D0 c pre W hD hpre hX hK
    rcases hX with h | ⟨h1, _, _⟩
    · exact absurd hpre h
    · omega

end Go.Proofs.YtodlbfekoohpoaaDoor
