/- AmendBehind: the law's walk. -/
import Derived.Test.YtmoeoomlggjaaaaGreatDoorAnF
namespace Go.Proofs.YtmoeoomlggjaaaaGreatDoor
open Go.RowKit Go.Maps

set_option maxRecDepth 100000 in
set_option maxHeartbeats 32000000 in
theorem behind_any (x y z : List Ch) (l : List It) (A0 A1 A2 A3 : Option Addr) (c0 c1 c2 c3 : Nat) (E : Nat → Addr) (m : Int) (w : World) (hx : RowAt chL 4 w w.heap.size A0 x) (hy : RowAt chL 4 w w.heap.size A1 y) (hz : RowAt chL 4 w w.heap.size A2 z) (hl : RowAt itL 3 w w.heap.size A3 l) (hix : ∀ c ∈ x, InC c) (hiy : ∀ c ∈ y, InC c) (hiz : ∀ c ∈ z, InC c) (hil : ∀ c ∈ l, InI c) (hE : Env LA E w) (hm : w.cell? ⟨4, 0, none⟩ = some (.int .i64 m)) :
    Calls Tryz.prog 5 #[.slice A0 x.length c0, .slice A1 y.length c1, .slice A2 z.length c2, .slice A3 l.length c3] w fun e w' => e = .returned (.bool true) ∧ Below w.heap.size w w' := by
  have HE := Lib.hid hE
  have HM := Lib.hid hm
  have RX := Lib.hid hx
  have RY := Lib.hid hy
  have RZ := Lib.hid hz
  have RL := Lib.hid hl
  have IX := Lib.hid hix
  have IY := Lib.hid hiy
  have IZ := Lib.hid hiz
  have IL := Lib.hid hil
  clear hE hm hx hy hz hl hix hiy hiz hil
  have HFI := Lib.hid (first25_any E m w HE.out HM.out)
  by_cases hx : (100 : Int) < (x.length : Int)
  · go_enter Tryz.func5, Tryz.ntmps5
    go_wp2_with fail
    refine HFI.out.mono ?_
    rintro e w1 ⟨rfl, hb1⟩
    go_wp2_with fail
    go_ret
    exact ⟨rfl, hb1⟩
  by_cases hy : (100 : Int) < (y.length : Int)
  · go_enter Tryz.func5, Tryz.ntmps5
    go_wp2_with fail
    refine HFI.out.mono ?_
    rintro e w1 ⟨rfl, hb1⟩
    go_wp2_with fail
    go_ret
    exact ⟨rfl, hb1⟩
  by_cases hz : (100 : Int) < (z.length : Int)
  · go_enter Tryz.func5, Tryz.ntmps5
    go_wp2_with fail
    refine HFI.out.mono ?_
    rintro e w1 ⟨rfl, hb1⟩
    go_wp2_with fail
    go_ret
    exact ⟨rfl, hb1⟩
  by_cases hl : (300 : Int) < (l.length : Int)
  · go_enter Tryz.func5, Tryz.ntmps5
    go_wp2_with fail
    refine HFI.out.mono ?_
    rintro e w1 ⟨rfl, hb1⟩
    go_wp2_with fail
    go_ret
    exact ⟨rfl, hb1⟩
  have lx : x.length ≤ 100 := by omega
  have ly : y.length ≤ 100 := by omega
  have lz : z.length ≤ 100 := by omega
  have ll : l.length ≤ 300 := by omega
  go_enter Tryz.func5, Tryz.ntmps5
  go_wp2_with fail
  refine (HFI.out).mono ?_
  rintro e w1 ⟨rfl, hb1⟩
  replace hb1 : Below w.heap.size w w1 := stepH (by (repeat' (first | with_reducible exact Below.refl _ _ | with_reducible assumption | with_reducible refine Below.drew ?_ | with_reducible refine below_drewN ?_ _ | with_reducible refine Below.setCell ?_ ?_ _ | with_reducible refine Below.alloc ?_ ?_ _ | omega | (simp; done) | (simp; omega)))) hb1
  have hw1 : Below w.heap.size w w1 := stepH (Below.refl _ _) hb1
  have RX := Lib.hid (row_step RX.out hb1)
  have RY := Lib.hid (row_step RY.out hb1)
  have RZ := Lib.hid (row_step RZ.out hb1)
  have RL := Lib.hid (row_step RL.out hb1)
  have z1 := hw1.size
  clear hb1
  clear HFI
  go_wp2_with fail
  obtain ⟨w2, hu2⟩ : ∃ u, w1.alloc (.cells #[.slice A0 x.length c0, .slice A1 y.length c1, .slice A2 z.length c2] 23) = u := ⟨_, rfl⟩
  have hb2 : Below w1.heap.size w1 w2 := by rw [← hu2]; (repeat' (first | with_reducible exact Below.refl _ _ | with_reducible assumption | with_reducible refine Below.drew ?_ | with_reducible refine below_drewN ?_ _ | with_reducible refine Below.setCell ?_ ?_ _ | with_reducible refine Below.alloc ?_ ?_ _ | omega | (simp; done) | (simp; omega)))
  have RG : Hid (RowAt grL 1 w2 w2.heap.size (some ⟨w1.heap.size, 0, none⟩) [(x, A0, c0), (y, A1, c1), (z, A2, c2)]) := Lib.hid (row_blk [(x, A0, c0), (y, A1, c1), (z, A2, c2)] grL_len (show w2.heap[w1.heap.size]? = some (.cells #[.slice A0 x.length c0, .slice A1 y.length c1, .slice A2 z.length c2] 23 (0, 0)) by rw [← hu2]; exact blk_new rfl) rfl)
  rw [hu2]
  have hw2 : Below w.heap.size w w2 := stepH hw1 hb2
  have RX := Lib.hid (row_step RX.out hb2)
  have RY := Lib.hid (row_step RY.out hb2)
  have RZ := Lib.hid (row_step RZ.out hb2)
  have RL := Lib.hid (row_step RL.out hb2)
  have z2 := hw2.size
  clear hb2 hu2
  refine (good_any [(x, A0, c0), (y, A1, c1), (z, A2, c2)] (some ⟨w1.heap.size, 0, none⟩) 3 E m _ RG.out (fun q hq => by simp only [List.mem_cons, List.not_mem_nil, or_false] at hq; rcases hq with rfl | rfl | rfl; exact ⟨RX.out, by show x.length ≤ 500; omega, IX.out⟩; exact ⟨RY.out, by show y.length ≤ 500; omega, IY.out⟩; exact ⟨RZ.out, by show z.length ≤ 500; omega, IZ.out⟩) (by show 3 ≤ 100; omega) (HE.out.below hw2) (cell_at HM.out hw2)).mono ?_
  rintro e w3 ⟨⟨hgd⟩, hb3⟩
  replace hb3 : Below w2.heap.size w2 w3 := stepH (by (repeat' (first | with_reducible exact Below.refl _ _ | with_reducible assumption | with_reducible refine Below.drew ?_ | with_reducible refine below_drewN ?_ _ | with_reducible refine Below.setCell ?_ ?_ _ | with_reducible refine Below.alloc ?_ ?_ _ | omega | (simp; done) | (simp; omega)))) hb3
  have hw3 : Below w.heap.size w w3 := stepH hw2 hb3
  have RX := Lib.hid (row_step RX.out hb3)
  have RY := Lib.hid (row_step RY.out hb3)
  have RZ := Lib.hid (row_step RZ.out hb3)
  have RL := Lib.hid (row_step RL.out hb3)
  have RG := Lib.hid (row_step RG.out hb3)
  have z3 := hw3.size
  clear hb3
  clear RG RX RY RZ
  rcases hgd with rfl | ⟨AP, cP, ps, hpl, rfl, hpr, hpg⟩
  case inl =>
    go_wp2_with fail
    go_ret
    exact ⟨rfl, hw3⟩
  obtain ⟨⟨a, Ma⟩, ⟨b, Mb⟩, ⟨c, Mc⟩, rfl⟩ : ∃ p q r, ps = [p, q, r] := by
    match ps, hpl with
    | [p, q, r], _ => exact ⟨p, q, r, rfl⟩
  obtain ⟨hma, Na, ha, hna⟩ := hpg 0 _ _ rfl rfl
  obtain ⟨hmb, Nb, hb, hnb⟩ := hpg 1 _ _ rfl rfl
  obtain ⟨hmc, Nc, hc, hnc⟩ := hpg 2 _ _ rfl rfl
  dsimp only at hma hmb hmc ha hb hc hna hnb hnc
  obtain ⟨gp, op, rfl, pa⟩ := ptr_cell hpr (k := 0) rfl
  obtain ⟨_, _, e1, pb⟩ := ptr_cell hpr (k := 1) rfl
  obtain ⟨_, _, e2, pc⟩ := ptr_cell hpr (k := 2) rfl
  cases e1
  cases e2
  dsimp only at pa pb pc
  rw [Nat.add_zero] at pa
  obtain ⟨f, hf⟩ : ∃ f, makeF x = f := ⟨_, rfl⟩
  obtain ⟨g, hg⟩ : ∃ f, makeF y = f := ⟨_, rfl⟩
  obtain ⟨h, hh⟩ : ∃ f, makeF z = f := ⟨_, rfl⟩
  have OF : Hid (okA f) := Lib.hid (hf ▸ makeF_ok hma)
  have OG : Hid (okA g) := Lib.hid (hg ▸ makeF_ok hmb)
  rw [hf] at ha
  rw [hg] at hb
  rw [hh] at hc
  obtain ⟨cf, hcf, hlf⟩ := am_canon ha
  obtain ⟨cg, hcg, hlg⟩ := am_canon hb
  have CF := Lib.hid hcf
  have CG := Lib.hid hcg
  have HLF := Lib.hid hlf
  have HLG := Lib.hid hlg
  have AA := Lib.hid ha
  have AB := Lib.hid hb
  have AC := Lib.hid hc
  clear ha hb hc hma hmb hmc hf hg hh hcf hcg hlf hlg hpr hpg hpl
  go_wp2_with fail
  refine (then_fit a Ma Na b Mb Nb f g (over f g) E _ AA.out AB.out (by omega) (HE.out.below hw3) rfl).mono ?_
  rintro e w4 ⟨⟨ab, Mab, Nab, rfl, hab, hnab⟩, hb4⟩
  replace hb4 : Below w3.heap.size w3 w4 := stepH (by (repeat' (first | with_reducible exact Below.refl _ _ | with_reducible assumption | with_reducible refine Below.drew ?_ | with_reducible refine below_drewN ?_ _ | with_reducible refine Below.setCell ?_ ?_ _ | with_reducible refine Below.alloc ?_ ?_ _ | omega | (simp; done) | (simp; omega)))) hb4
  have hw4 : Below w.heap.size w w4 := stepH hw3 hb4
  have RL := Lib.hid (row_step RL.out hb4)
  have AA := Lib.hid (AA.out.step hb4)
  have AB := Lib.hid (AB.out.step hb4)
  have AC := Lib.hid (AC.out.step hb4)
  have z4 := hw4.size
  clear hb4
  have Aab := Lib.hid hab
  clear hab
  clear pa pb pc
  go_wp2_with fail
  refine (then_fit b Mb Nb c Mc Nc g h (over g h) E _ AB.out AC.out (by omega) (HE.out.below hw4) rfl).mono ?_
  rintro e w5 ⟨⟨bc, Mbc, Nbc, rfl, hbc, hnbc⟩, hb5⟩
  replace hb5 : Below w4.heap.size w4 w5 := stepH (by (repeat' (first | with_reducible exact Below.refl _ _ | with_reducible assumption | with_reducible refine Below.drew ?_ | with_reducible refine below_drewN ?_ _ | with_reducible refine Below.setCell ?_ ?_ _ | with_reducible refine Below.alloc ?_ ?_ _ | omega | (simp; done) | (simp; omega)))) hb5
  have hw5 : Below w.heap.size w w5 := stepH hw4 hb5
  have RL := Lib.hid (row_step RL.out hb5)
  have AA := Lib.hid (AA.out.step hb5)
  have AB := Lib.hid (AB.out.step hb5)
  have AC := Lib.hid (AC.out.step hb5)
  have Aab := Lib.hid (Aab.out.step hb5)
  have z5 := hw5.size
  clear hb5
  have Abc := Lib.hid hbc
  clear hbc
  go_wp2_with fail
  refine (then_fit a Ma Na a Ma Na f f f E _ AA.out AA.out (by omega) (HE.out.below hw5) (over_self f)).mono ?_
  rintro e w6 ⟨⟨aa, Maa, Naa, rfl, haa, hnaa⟩, hb6⟩
  replace hb6 : Below w5.heap.size w5 w6 := stepH (by (repeat' (first | with_reducible exact Below.refl _ _ | with_reducible assumption | with_reducible refine Below.drew ?_ | with_reducible refine below_drewN ?_ _ | with_reducible refine Below.setCell ?_ ?_ _ | with_reducible refine Below.alloc ?_ ?_ _ | omega | (simp; done) | (simp; omega)))) hb6
  have hw6 : Below w.heap.size w w6 := stepH hw5 hb6
  have RL := Lib.hid (row_step RL.out hb6)
  have AA := Lib.hid (AA.out.step hb6)
  have AB := Lib.hid (AB.out.step hb6)
  have AC := Lib.hid (AC.out.step hb6)
  have Aab := Lib.hid (Aab.out.step hb6)
  have Abc := Lib.hid (Abc.out.step hb6)
  have z6 := hw6.size
  clear hb6
  have Aaa := Lib.hid haa
  clear haa
  go_wp2_with fail
  refine (none_any _).mono ?_
  rintro e w7 ⟨no, Mno, rfl, hno, _, _, hb7⟩
  replace hb7 : Below w6.heap.size w6 w7 := stepH (by (repeat' (first | with_reducible exact Below.refl _ _ | with_reducible assumption | with_reducible refine Below.drew ?_ | with_reducible refine below_drewN ?_ _ | with_reducible refine Below.setCell ?_ ?_ _ | with_reducible refine Below.alloc ?_ ?_ _ | omega | (simp; done) | (simp; omega)))) hb7
  have hw7 : Below w.heap.size w w7 := stepH hw6 hb7
  have RL := Lib.hid (row_step RL.out hb7)
  have AA := Lib.hid (AA.out.step hb7)
  have AB := Lib.hid (AB.out.step hb7)
  have AC := Lib.hid (AC.out.step hb7)
  have Aab := Lib.hid (Aab.out.step hb7)
  have Abc := Lib.hid (Abc.out.step hb7)
  have Aaa := Lib.hid (Aaa.out.step hb7)
  have z7 := hw7.size
  clear hb7
  have ANo := Lib.hid hno
  clear hno
  go_wp2_with fail
  refine (then_fit a Ma Na no Mno 0 f (fun _ => none) f E _ AA.out ANo.out (by omega) (HE.out.below hw7) (over_none f)).mono ?_
  rintro e w8 ⟨⟨left, Mleft, Nleft, rfl, hleft, hnleft⟩, hb8⟩
  replace hb8 : Below w7.heap.size w7 w8 := stepH (by (repeat' (first | with_reducible exact Below.refl _ _ | with_reducible assumption | with_reducible refine Below.drew ?_ | with_reducible refine below_drewN ?_ _ | with_reducible refine Below.setCell ?_ ?_ _ | with_reducible refine Below.alloc ?_ ?_ _ | omega | (simp; done) | (simp; omega)))) hb8
  have hw8 : Below w.heap.size w w8 := stepH hw7 hb8
  have RL := Lib.hid (row_step RL.out hb8)
  have AA := Lib.hid (AA.out.step hb8)
  have AB := Lib.hid (AB.out.step hb8)
  have AC := Lib.hid (AC.out.step hb8)
  have Aab := Lib.hid (Aab.out.step hb8)
  have Abc := Lib.hid (Abc.out.step hb8)
  have Aaa := Lib.hid (Aaa.out.step hb8)
  have ANo := Lib.hid (ANo.out.step hb8)
  have z8 := hw8.size
  clear hb8
  have Aleft := Lib.hid hleft
  clear hleft
  clear ANo
  go_wp2_with fail
  refine (none_any _).mono ?_
  rintro e w9 ⟨nq, Mnq, rfl, hnq, _, _, hb9⟩
  replace hb9 : Below w8.heap.size w8 w9 := stepH (by (repeat' (first | with_reducible exact Below.refl _ _ | with_reducible assumption | with_reducible refine Below.drew ?_ | with_reducible refine below_drewN ?_ _ | with_reducible refine Below.setCell ?_ ?_ _ | with_reducible refine Below.alloc ?_ ?_ _ | omega | (simp; done) | (simp; omega)))) hb9
  have hw9 : Below w.heap.size w w9 := stepH hw8 hb9
  have RL := Lib.hid (row_step RL.out hb9)
  have AA := Lib.hid (AA.out.step hb9)
  have AB := Lib.hid (AB.out.step hb9)
  have AC := Lib.hid (AC.out.step hb9)
  have Aab := Lib.hid (Aab.out.step hb9)
  have Abc := Lib.hid (Abc.out.step hb9)
  have Aaa := Lib.hid (Aaa.out.step hb9)
  have Aleft := Lib.hid (Aleft.out.step hb9)
  have z9 := hw9.size
  clear hb9
  have ANq := Lib.hid hnq
  clear hnq
  go_wp2_with fail
  refine (then_fit nq Mnq 0 a Ma Na (fun _ => none) f f E _ ANq.out AA.out (by omega) (HE.out.below hw9) (none_over f)).mono ?_
  rintro e w10 ⟨⟨right, Mright, Nright, rfl, hright, hnright⟩, hb10⟩
  replace hb10 : Below w9.heap.size w9 w10 := stepH (by (repeat' (first | with_reducible exact Below.refl _ _ | with_reducible assumption | with_reducible refine Below.drew ?_ | with_reducible refine below_drewN ?_ _ | with_reducible refine Below.setCell ?_ ?_ _ | with_reducible refine Below.alloc ?_ ?_ _ | omega | (simp; done) | (simp; omega)))) hb10
  have hw10 : Below w.heap.size w w10 := stepH hw9 hb10
  have RL := Lib.hid (row_step RL.out hb10)
  have AA := Lib.hid (AA.out.step hb10)
  have AB := Lib.hid (AB.out.step hb10)
  have AC := Lib.hid (AC.out.step hb10)
  have Aab := Lib.hid (Aab.out.step hb10)
  have Abc := Lib.hid (Abc.out.step hb10)
  have Aaa := Lib.hid (Aaa.out.step hb10)
  have Aleft := Lib.hid (Aleft.out.step hb10)
  have ANq := Lib.hid (ANq.out.step hb10)
  have z10 := hw10.size
  clear hb10
  have Aright := Lib.hid hright
  clear hright
  clear ANq
  go_wp2_with fail
  refine (same_fit aa Maa Naa a Ma Na f _ Aaa.out AA.out (by omega) (by omega)).mono ?_
  rintro e w11 ⟨rfl, hb11⟩
  replace hb11 : Below w10.heap.size w10 w11 := stepH (by (repeat' (first | with_reducible exact Below.refl _ _ | with_reducible assumption | with_reducible refine Below.drew ?_ | with_reducible refine below_drewN ?_ _ | with_reducible refine Below.setCell ?_ ?_ _ | with_reducible refine Below.alloc ?_ ?_ _ | omega | (simp; done) | (simp; omega)))) hb11
  have hw11 : Below w.heap.size w w11 := stepH hw10 hb11
  have RL := Lib.hid (row_step RL.out hb11)
  have AA := Lib.hid (AA.out.step hb11)
  have AB := Lib.hid (AB.out.step hb11)
  have AC := Lib.hid (AC.out.step hb11)
  have Aab := Lib.hid (Aab.out.step hb11)
  have Abc := Lib.hid (Abc.out.step hb11)
  have Aaa := Lib.hid (Aaa.out.step hb11)
  have Aleft := Lib.hid (Aleft.out.step hb11)
  have Aright := Lib.hid (Aright.out.step hb11)
  have z11 := hw11.size
  clear hb11
  clear Aaa
  go_wp2_with fail
  refine (same_fit left Mleft Nleft a Ma Na f _ Aleft.out AA.out (by omega) (by omega)).mono ?_
  rintro e w12 ⟨rfl, hb12⟩
  replace hb12 : Below w11.heap.size w11 w12 := stepH (by (repeat' (first | with_reducible exact Below.refl _ _ | with_reducible assumption | with_reducible refine Below.drew ?_ | with_reducible refine below_drewN ?_ _ | with_reducible refine Below.setCell ?_ ?_ _ | with_reducible refine Below.alloc ?_ ?_ _ | omega | (simp; done) | (simp; omega)))) hb12
  have hw12 : Below w.heap.size w w12 := stepH hw11 hb12
  have RL := Lib.hid (row_step RL.out hb12)
  have AA := Lib.hid (AA.out.step hb12)
  have AB := Lib.hid (AB.out.step hb12)
  have AC := Lib.hid (AC.out.step hb12)
  have Aab := Lib.hid (Aab.out.step hb12)
  have Abc := Lib.hid (Abc.out.step hb12)
  have Aleft := Lib.hid (Aleft.out.step hb12)
  have Aright := Lib.hid (Aright.out.step hb12)
  have z12 := hw12.size
  clear hb12
  clear Aleft
  go_wp2_with fail
  refine (same_fit right Mright Nright a Ma Na f _ Aright.out AA.out (by omega) (by omega)).mono ?_
  rintro e w13 ⟨rfl, hb13⟩
  replace hb13 : Below w12.heap.size w12 w13 := stepH (by (repeat' (first | with_reducible exact Below.refl _ _ | with_reducible assumption | with_reducible refine Below.drew ?_ | with_reducible refine below_drewN ?_ _ | with_reducible refine Below.setCell ?_ ?_ _ | with_reducible refine Below.alloc ?_ ?_ _ | omega | (simp; done) | (simp; omega)))) hb13
  have hw13 : Below w.heap.size w w13 := stepH hw12 hb13
  have RL := Lib.hid (row_step RL.out hb13)
  have AA := Lib.hid (AA.out.step hb13)
  have AB := Lib.hid (AB.out.step hb13)
  have AC := Lib.hid (AC.out.step hb13)
  have Aab := Lib.hid (Aab.out.step hb13)
  have Abc := Lib.hid (Abc.out.step hb13)
  have Aright := Lib.hid (Aright.out.step hb13)
  have z13 := hw13.size
  clear hb13
  clear Aright
  go_wp2_with fail
  refine (then_fit ab Mab Nab c Mc Nc (over f g) h (over f (over g h)) E _ Aab.out AC.out (by omega) (HE.out.below hw13) (over_assoc f g h)).mono ?_
  rintro e w14 ⟨⟨p, Mp, Np, rfl, hp, hnp⟩, hb14⟩
  replace hb14 : Below w13.heap.size w13 w14 := stepH (by (repeat' (first | with_reducible exact Below.refl _ _ | with_reducible assumption | with_reducible refine Below.drew ?_ | with_reducible refine below_drewN ?_ _ | with_reducible refine Below.setCell ?_ ?_ _ | with_reducible refine Below.alloc ?_ ?_ _ | omega | (simp; done) | (simp; omega)))) hb14
  have hw14 : Below w.heap.size w w14 := stepH hw13 hb14
  have RL := Lib.hid (row_step RL.out hb14)
  have AA := Lib.hid (AA.out.step hb14)
  have AB := Lib.hid (AB.out.step hb14)
  have AC := Lib.hid (AC.out.step hb14)
  have Aab := Lib.hid (Aab.out.step hb14)
  have Abc := Lib.hid (Abc.out.step hb14)
  have z14 := hw14.size
  clear hb14
  have Ap := Lib.hid hp
  clear hp
  clear AC
  go_wp2_with fail
  refine (then_fit a Ma Na bc Mbc Nbc f (over g h) (over f (over g h)) E _ AA.out Abc.out (by omega) (HE.out.below hw14) rfl).mono ?_
  rintro e w15 ⟨⟨q, Mq, Nq, rfl, hq, hnq⟩, hb15⟩
  replace hb15 : Below w14.heap.size w14 w15 := stepH (by (repeat' (first | with_reducible exact Below.refl _ _ | with_reducible assumption | with_reducible refine Below.drew ?_ | with_reducible refine below_drewN ?_ _ | with_reducible refine Below.setCell ?_ ?_ _ | with_reducible refine Below.alloc ?_ ?_ _ | omega | (simp; done) | (simp; omega)))) hb15
  have hw15 : Below w.heap.size w w15 := stepH hw14 hb15
  have RL := Lib.hid (row_step RL.out hb15)
  have AA := Lib.hid (AA.out.step hb15)
  have AB := Lib.hid (AB.out.step hb15)
  have Aab := Lib.hid (Aab.out.step hb15)
  have Abc := Lib.hid (Abc.out.step hb15)
  have Ap := Lib.hid (Ap.out.step hb15)
  have z15 := hw15.size
  clear hb15
  have Aq := Lib.hid hq
  clear hq
  clear Abc
  go_wp2_with fail
  refine (same_fit p Mp Np q Mq Nq (over f (over g h)) _ Ap.out Aq.out (by omega) (by omega)).mono ?_
  rintro e w16 ⟨rfl, hb16⟩
  replace hb16 : Below w15.heap.size w15 w16 := stepH (by (repeat' (first | with_reducible exact Below.refl _ _ | with_reducible assumption | with_reducible refine Below.drew ?_ | with_reducible refine below_drewN ?_ _ | with_reducible refine Below.setCell ?_ ?_ _ | with_reducible refine Below.alloc ?_ ?_ _ | omega | (simp; done) | (simp; omega)))) hb16
  have hw16 : Below w.heap.size w w16 := stepH hw15 hb16
  have RL := Lib.hid (row_step RL.out hb16)
  have AA := Lib.hid (AA.out.step hb16)
  have AB := Lib.hid (AB.out.step hb16)
  have Aab := Lib.hid (Aab.out.step hb16)
  have Ap := Lib.hid (Ap.out.step hb16)
  have Aq := Lib.hid (Aq.out.step hb16)
  have z16 := hw16.size
  clear hb16
  clear Ap Aq
  go_wp2_with fail
  refine (copyI_fit l A3 c3 _ RL.out (by omega)).mono ?_
  rintro e w17 ⟨⟨B1, d1, rfl, hr1, hn1⟩, hb17⟩
  replace hb17 : Below w16.heap.size w16 w17 := stepH (by (repeat' (first | with_reducible exact Below.refl _ _ | with_reducible assumption | with_reducible refine Below.drew ?_ | with_reducible refine below_drewN ?_ _ | with_reducible refine Below.setCell ?_ ?_ _ | with_reducible refine Below.alloc ?_ ?_ _ | omega | (simp; done) | (simp; omega)))) hb17
  have hw17 : Below w.heap.size w w17 := stepH hw16 hb17
  have RL := Lib.hid (row_step RL.out hb17)
  have AA := Lib.hid (AA.out.step hb17)
  have AB := Lib.hid (AB.out.step hb17)
  have Aab := Lib.hid (Aab.out.step hb17)
  have z17 := hw17.size
  clear hb17
  have R1 := Lib.hid hr1
  have N1 := Lib.hid hn1
  clear hr1 hn1
  cases hf : faultI l with
  | some gx =>
    have hne := fun W => eql_nil (E gx) W
    go_wp2_with fail
    refine (apply_any a Ma Na f l B1 d1 E m _ AA.out (by omega) R1.out IL.out (HE.out.below hw17) (cell_at HM.out hw17) N1.out OF.out).mono ?_
    rintro e w18 ⟨hap, hb18⟩
    replace hb18 : Below w17.heap.size w17 w18 := stepH (by (repeat' (first | with_reducible exact Below.refl _ _ | with_reducible assumption | with_reducible refine Below.drew ?_ | with_reducible refine below_drewN ?_ _ | with_reducible refine Below.setCell ?_ ?_ _ | with_reducible refine Below.alloc ?_ ?_ _ | omega | (simp; done) | (simp; omega)))) hb18
    have hw18 : Below w.heap.size w w18 := stepH hw17 hb18
    have RL := Lib.hid (row_step RL.out hb18)
    have AA := Lib.hid (AA.out.step hb18)
    have AB := Lib.hid (AB.out.step hb18)
    have Aab := Lib.hid (Aab.out.step hb18)
    have R1 := Lib.hid (row_step R1.out hb18)
    have z18 := hw18.size
    clear hb18
    rcases hap with ⟨gy, hgy, _, rfl⟩ | ⟨hgy, _⟩
    case inr => rw [hf] at hgy; cases hgy
    rw [hf] at hgy
    injection hgy with hgy
    subst hgy
    rw [show errA E (some gx) = .iface 184 (.pointer (some (E gx))) from rfl]
    go_wp2_with fail
    go_ret
    exact ⟨rfl, hw18⟩
  | none =>
    have HF := Lib.hid hf
    have OS := Lib.hid (okS_app (okS_in hf) OF.out)
    have L1 := Lib.hid (app_names (in_names l) CF.out)
    have hl1 : (l.map itb ++ cf.map nmb).length ≤ 400 := by have := HLF.out; simp; omega
    have HL1 := Lib.hid hl1
    clear hf hl1
    go_wp2_with fail
    refine (apply_fit a Ma Na f l B1 d1 E m _ AA.out (by omega) R1.out IL.out (HE.out.below hw17) (cell_at HM.out hw17) N1.out OF.out HF.out (app (inF l) f) rfl _ L1.out (by have := HL1.out; omega)).mono ?_
    rintro e w18 ⟨⟨B2, d2, r1, rfl, hr2, hn2, hc2, hk2⟩, hb18⟩
    replace hb18 : Below w17.heap.size w17 w18 := stepH (by (repeat' (first | with_reducible exact Below.refl _ _ | with_reducible assumption | with_reducible refine Below.drew ?_ | with_reducible refine below_drewN ?_ _ | with_reducible refine Below.setCell ?_ ?_ _ | with_reducible refine Below.alloc ?_ ?_ _ | omega | (simp; done) | (simp; omega)))) hb18
    have hw18 : Below w.heap.size w w18 := stepH hw17 hb18
    have RL := Lib.hid (row_step RL.out hb18)
    have AA := Lib.hid (AA.out.step hb18)
    have AB := Lib.hid (AB.out.step hb18)
    have Aab := Lib.hid (Aab.out.step hb18)
    have R1 := Lib.hid (row_step R1.out hb18)
    have z18 := hw18.size
    clear hb18
    clear R1
    have R2 := Lib.hid hr2
    have N2 := Lib.hid hn2
    have C2 := Lib.hid hc2
    have hk2' : r1.length ≤ 400 := Nat.le_trans hk2 HL1.out
    have I2 := Lib.hid (hc2.inI OS.out)
    have F2 := Lib.hid (hc2.fault OS.out (by omega))
    have e2 := Lib.hid hc2.inF
    have L2 := Lib.hid (app_names L1.out CG.out)
    have hl2 : ((l.map itb ++ cf.map nmb) ++ cg.map nmb).length ≤ 500 := by have := HLG.out; have := HL1.out; rw [List.length_append, List.length_map]; omega
    have HL2 := Lib.hid hl2
    clear hr2 hn2 hc2 hk2 hl2
    go_wp2_with fail
    refine (apply_fit b Mb Nb g r1 B2 d2 E m _ AB.out (by omega) R2.out I2.out (HE.out.below hw18) (cell_at HM.out hw18) N2.out OG.out F2.out (app (app (inF l) f) g) (by rw [e2.out]) _ L2.out HL2.out).mono ?_
    rintro e w19 ⟨⟨B3, d3, r2, rfl, hr3, hn3, hc3, hk3⟩, hb19⟩
    replace hb19 : Below w18.heap.size w18 w19 := stepH (by (repeat' (first | with_reducible exact Below.refl _ _ | with_reducible assumption | with_reducible refine Below.drew ?_ | with_reducible refine below_drewN ?_ _ | with_reducible refine Below.setCell ?_ ?_ _ | with_reducible refine Below.alloc ?_ ?_ _ | omega | (simp; done) | (simp; omega)))) hb19
    have hw19 : Below w.heap.size w w19 := stepH hw18 hb19
    have RL := Lib.hid (row_step RL.out hb19)
    have AA := Lib.hid (AA.out.step hb19)
    have AB := Lib.hid (AB.out.step hb19)
    have Aab := Lib.hid (Aab.out.step hb19)
    have R2 := Lib.hid (row_step R2.out hb19)
    have z19 := hw19.size
    clear hb19
    have R3 := Lib.hid hr3
    have C3 := Lib.hid hc3
    have hk3' : r2.length ≤ 500 := Nat.le_trans hk3 HL2.out
    clear hr3 hn3 hc3 hk3
    go_wp2_with fail
    refine (copyI_fit l A3 c3 _ RL.out (by omega)).mono ?_
    rintro e w20 ⟨⟨B4, d4, rfl, hr4, hn4⟩, hb20⟩
    replace hb20 : Below w19.heap.size w19 w20 := stepH (by (repeat' (first | with_reducible exact Below.refl _ _ | with_reducible assumption | with_reducible refine Below.drew ?_ | with_reducible refine below_drewN ?_ _ | with_reducible refine Below.setCell ?_ ?_ _ | with_reducible refine Below.alloc ?_ ?_ _ | omega | (simp; done) | (simp; omega)))) hb20
    have hw20 : Below w.heap.size w w20 := stepH hw19 hb20
    have RL := Lib.hid (row_step RL.out hb20)
    have AA := Lib.hid (AA.out.step hb20)
    have AB := Lib.hid (AB.out.step hb20)
    have Aab := Lib.hid (Aab.out.step hb20)
    have R2 := Lib.hid (row_step R2.out hb20)
    have R3 := Lib.hid (row_step R3.out hb20)
    have z20 := hw20.size
    clear hb20
    have R4 := Lib.hid hr4
    have N4 := Lib.hid hn4
    clear hr4 hn4
    clear RL AB
    go_wp2_with fail
    refine (apply_fit ab Mab Nab (over f g) l B4 d4 E m _ Aab.out (by omega) R4.out IL.out (HE.out.below hw20) (cell_at HM.out hw20) N4.out (okA_over OF.out OG.out) HF.out (app (app (inF l) f) g) (app_over _ _ _) _ L2.out HL2.out).mono ?_
    rintro e w21 ⟨⟨B5, d5, r3, rfl, hr5, hn5, hc5, hk5⟩, hb21⟩
    replace hb21 : Below w20.heap.size w20 w21 := stepH (by (repeat' (first | with_reducible exact Below.refl _ _ | with_reducible assumption | with_reducible refine Below.drew ?_ | with_reducible refine below_drewN ?_ _ | with_reducible refine Below.setCell ?_ ?_ _ | with_reducible refine Below.alloc ?_ ?_ _ | omega | (simp; done) | (simp; omega)))) hb21
    have hw21 : Below w.heap.size w w21 := stepH hw20 hb21
    have AA := Lib.hid (AA.out.step hb21)
    have Aab := Lib.hid (Aab.out.step hb21)
    have R2 := Lib.hid (row_step R2.out hb21)
    have R3 := Lib.hid (row_step R3.out hb21)
    have R4 := Lib.hid (row_step R4.out hb21)
    have z21 := hw21.size
    clear hb21
    obtain rfl := hc5.unique C3.out
    have R5 := Lib.hid hr5
    clear hr5 hn5 hc5 hk5
    clear R4 Aab
    go_wp2_with fail
    refine (apply_fit a Ma Na f r1 B2 d2 E m _ AA.out (by omega) R2.out I2.out (HE.out.below hw21) (cell_at HM.out hw21) N2.out OF.out F2.out (app (inF l) f) (by rw [e2.out]; exact app_twice _ _) _ L1.out (by have := HL1.out; omega)).mono ?_
    rintro e w22 ⟨⟨B6, d6, r4, rfl, hr6, hn6, hc6, hk6⟩, hb22⟩
    replace hb22 : Below w21.heap.size w21 w22 := stepH (by (repeat' (first | with_reducible exact Below.refl _ _ | with_reducible assumption | with_reducible refine Below.drew ?_ | with_reducible refine below_drewN ?_ _ | with_reducible refine Below.setCell ?_ ?_ _ | with_reducible refine Below.alloc ?_ ?_ _ | omega | (simp; done) | (simp; omega)))) hb22
    have hw22 : Below w.heap.size w w22 := stepH hw21 hb22
    have AA := Lib.hid (AA.out.step hb22)
    have R2 := Lib.hid (row_step R2.out hb22)
    have R3 := Lib.hid (row_step R3.out hb22)
    have R5 := Lib.hid (row_step R5.out hb22)
    have z22 := hw22.size
    clear hb22
    obtain rfl := hc6.unique C2.out
    have R6 := Lib.hid hr6
    clear hr6 hn6 hc6 hk6
    clear AA
    go_wp2_with fail
    refine (sameIs_fit r3 B3 B5 d3 d5 _ R3.out R5.out (by omega)).mono ?_
    rintro e w23 ⟨rfl, hb23⟩
    replace hb23 : Below w22.heap.size w22 w23 := stepH (by (repeat' (first | with_reducible exact Below.refl _ _ | with_reducible assumption | with_reducible refine Below.drew ?_ | with_reducible refine below_drewN ?_ _ | with_reducible refine Below.setCell ?_ ?_ _ | with_reducible refine Below.alloc ?_ ?_ _ | omega | (simp; done) | (simp; omega)))) hb23
    have hw23 : Below w.heap.size w w23 := stepH hw22 hb23
    have R2 := Lib.hid (row_step R2.out hb23)
    have R3 := Lib.hid (row_step R3.out hb23)
    have R5 := Lib.hid (row_step R5.out hb23)
    have R6 := Lib.hid (row_step R6.out hb23)
    have z23 := hw23.size
    clear hb23
    clear R3 R5
    go_wp2_with fail
    refine (sameIs_fit r4 B6 B2 d6 d2 _ R6.out R2.out (by omega)).mono ?_
    rintro e w24 ⟨rfl, hb24⟩
    replace hb24 : Below w23.heap.size w23 w24 := stepH (by (repeat' (first | with_reducible exact Below.refl _ _ | with_reducible assumption | with_reducible refine Below.drew ?_ | with_reducible refine below_drewN ?_ _ | with_reducible refine Below.setCell ?_ ?_ _ | with_reducible refine Below.alloc ?_ ?_ _ | omega | (simp; done) | (simp; omega)))) hb24
    have hw24 : Below w.heap.size w w24 := stepH hw23 hb24
    have R2 := Lib.hid (row_step R2.out hb24)
    have R6 := Lib.hid (row_step R6.out hb24)
    have z24 := hw24.size
    clear hb24
    go_wp2_with fail
    go_ret
    exact ⟨rfl, hw24⟩
end Go.Proofs.YtmoeoomlggjaaaaGreatDoor
