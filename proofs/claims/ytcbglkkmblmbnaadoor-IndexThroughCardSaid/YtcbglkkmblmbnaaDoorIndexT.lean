/- The walk of IndexThrough. -/
import Derived.Test.YtcbglkkmblmbnaaDoorIndexG
import Derived.Test.YtcbglkkmblmbnaaDoorIndexLaw2
namespace Go.Proofs.YtcbglkkmblmbnaaDoor
open Go.RowKit

theorem mul_is {E : Nat → Addr} {x : Rat} {n d : Int} {err : Value} (h : ResF E (goodR x) n d err) (hx : Good x) : Good x ∧ n = x.num ∧ d = x.den ∧ err = .nilIface := by
  rcases resF_two h with ⟨h1, h2, h3, h4⟩ | ⟨h1, _⟩
  · exact ⟨h1, h2, h3, h4⟩
  · exact absurd hx h1

theorem rat_of_parts {x : Rat} {y : Int} (h : (x.num == y && (x.den : Int) == 1) = true) : x = (y : Rat) := by
  rw [Bool.and_eq_true, beq_iff_eq, beq_iff_eq] at h
  apply fv_inj
  · rw [Rat.num_intCast]; exact h.1
  · rw [Rat.den_intCast]; exact h.2

/-- 'each step was just its product' -/
def ExactI (a : Int) (l : List Int) (b : Bool) (k : Nat) (x : Int) : Prop := b = true → ∀ l0 lk : Int, l[0]? = some l0 → l[k]? = some lk → (x : Rat) * (l0 : Rat) = (a : Rat) * (lk : Rat)

theorem exactI_zero (a : Int) (l : List Int) : ExactI a l true 0 a := fun _ l0 lk h0 hk => by rw [h0] at hk; cases hk; rfl

theorem exactI_false (a : Int) (l : List Int) (k : Nat) (x : Int) : ExactI a l false k x := fun h => by cases h

theorem exactI_step {a : Int} {l : List Int} {k : Nat} {x y lk l1 : Int} {q : Rat} (h : ExactI a l true k x) (hk : l[k]? = some lk) (h1 : l[k + 1]? = some l1) (hf : factorR l1 lk = .ok q) : ExactI a l (((x : Rat) * q).num == y && (((x : Rat) * q).den : Int) == 1) (k + 1) y := by
  intro he l0 l2 h0 h2
  rw [h1] at h2
  cases h2
  exact exact_step hf (h rfl l0 lk h0 hk) (rat_of_parts he)

set_option maxRecDepth 100000 in
set_option maxHeartbeats 16000000 in
theorem indexThrough_walk (a : Int) (l : List Int) (A : Option Addr) (c : Nat) (unit mode : Int) (E : Nat → Addr) (w : World) (hc : l.length ≤ c) (hm : c ≤ maxLen) (hl : RowAt encI 1 w w.heap.size A l) (hI : ∀ x ∈ l, InI x) (Ba : -9223372036854775808 ≤ a ∧ a ≤ 9223372036854775807) (Bunit : -9223372036854775808 ≤ unit ∧ unit ≤ 9223372036854775807) (Bmode : -9223372036854775808 ≤ mode ∧ mode ≤ 9223372036854775807) (hE : Env LI E w) :
    Calls Tryd.prog 9 #[.int .i64 a, .slice A l.length c, .int .i64 unit, .int .i64 mode] w fun e w' => e = .returned (.bool true) ∧ Below w.heap.size w w' := by
  have hm' : l.length ≤ 9223372036854775807 := by unfold maxLen at hm; omega
  clear hm hc
  have HE := Lib.hid hE
  have HL := Lib.hid hl
  have HI := Lib.hid hI
  have HBa := Lib.hid Ba
  have HBu := Lib.hid Bunit
  have HBm := Lib.hid Bmode
  obtain ⟨Ba1, Ba2⟩ := Ba
  obtain ⟨Bunit1, Bunit2⟩ := Bunit
  obtain ⟨Bmode1, Bmode2⟩ := Bmode
  clear hE hl hI
  by_cases hn : l.length ≤ 1000
  rotate_left
  · go_enter Tryd.func9, Tryd.ntmps9
    go_wp2_with fail
    refine (first16_any E _ (HE.out.below (by (repeat' (first | with_reducible exact Below.refl _ _ | with_reducible assumption | with_reducible refine Below.drew ?_ | with_reducible refine below_drewN ?_ _ | with_reducible refine Below.setCell ?_ ?_ _ | with_reducible refine Below.alloc ?_ ?_ _ | omega | (simp; done) | (simp; omega)))))).mono ?_
    rintro e w1 ⟨rfl, hb1⟩
    have hw1 : Below w.heap.size w w1 := stepH (by (repeat' (first | with_reducible exact Below.refl _ _ | with_reducible assumption | with_reducible refine Below.drew ?_ | with_reducible refine below_drewN ?_ _ | with_reducible refine Below.setCell ?_ ?_ _ | with_reducible refine Below.alloc ?_ ?_ _ | omega | (simp; done) | (simp; omega)))) hb1
    have z1 := hw1.size
    clear hb1
    go_wp2_with fail
    go_ret
    exact ⟨rfl, by (repeat' (first | with_reducible exact Below.refl _ _ | with_reducible assumption | with_reducible refine Below.drew ?_ | with_reducible refine below_drewN ?_ _ | with_reducible refine Below.setCell ?_ ?_ _ | with_reducible refine Below.alloc ?_ ?_ _ | omega | (simp; done) | (simp; omega)))⟩
  go_enter Tryd.func9, Tryd.ntmps9
  go_wp2_with fail
  refine (first16_any E _ (HE.out.below (by (repeat' (first | with_reducible exact Below.refl _ _ | with_reducible assumption | with_reducible refine Below.drew ?_ | with_reducible refine below_drewN ?_ _ | with_reducible refine Below.setCell ?_ ?_ _ | with_reducible refine Below.alloc ?_ ?_ _ | omega | (simp; done) | (simp; omega)))))).mono ?_
  rintro e w2 ⟨rfl, hb2⟩
  have hw2 : Below w.heap.size w w2 := stepH (by (repeat' (first | with_reducible exact Below.refl _ _ | with_reducible assumption | with_reducible refine Below.drew ?_ | with_reducible refine below_drewN ?_ _ | with_reducible refine Below.setCell ?_ ?_ _ | with_reducible refine Below.alloc ?_ ?_ _ | omega | (simp; done) | (simp; omega)))) hb2
  have z2 := hw2.size
  clear hb2
  have HL1 := Lib.hid ((HL.out.below hw2 (Nat.le_refl _)).more hw2.size)
  go_wp2_with fail
  refine (through_any a l A c unit mode E _ HBa.out (by omega) HL1.out HI.out HBu.out HBm.out (HE.out.below (by (repeat' (first | with_reducible exact Below.refl _ _ | with_reducible assumption | with_reducible refine Below.drew ?_ | with_reducible refine below_drewN ?_ _ | with_reducible refine Below.setCell ?_ ?_ _ | with_reducible refine Below.alloc ?_ ?_ _ | omega | (simp; done) | (simp; omega)))))).mono ?_
  rintro e w3 ⟨hret, hb3⟩
  have hw3 : Below w.heap.size w w3 := stepH (by (repeat' (first | with_reducible exact Below.refl _ _ | with_reducible assumption | with_reducible refine Below.drew ?_ | with_reducible refine below_drewN ?_ _ | with_reducible refine Below.setCell ?_ ?_ _ | with_reducible refine Below.alloc ?_ ?_ _ | omega | (simp; done) | (simp; omega)))) hb3
  have HL2 := Lib.hid ((HL1.out.below hb3 (Nat.le_refl _)).more hb3.size)
  have z3 := hw3.size
  clear hb3 hw2 z2
  cases ht : throughI a l unit mode
  · rename_i g
    rw [ht] at hret
    have hret : e = _ := hret
    subst hret
    clear ht
    go_wp2_with fail
    refine (chain_any l A c E _ (by omega) HL2.out HI.out (HE.out.below (by (repeat' (first | with_reducible exact Below.refl _ _ | with_reducible assumption | with_reducible refine Below.drew ?_ | with_reducible refine below_drewN ?_ _ | with_reducible refine Below.setCell ?_ ?_ _ | with_reducible refine Below.alloc ?_ ?_ _ | omega | (simp; done) | (simp; omega)))))).mono ?_
    rintro e w4 ⟨hret, hb4⟩
    have hw4 : Below w.heap.size w w4 := stepH (by (repeat' (first | with_reducible exact Below.refl _ _ | with_reducible assumption | with_reducible refine Below.drew ?_ | with_reducible refine below_drewN ?_ _ | with_reducible refine Below.setCell ?_ ?_ _ | with_reducible refine Below.alloc ?_ ?_ _ | omega | (simp; done) | (simp; omega)))) hb4
    have z4 := hw4.size
    clear hb4 hw3 z3
    have hen := fun w => eql_nil (E g) w
    cases hcc : chainI l
    · rename_i g2
      rw [hcc] at hret
      have hret : e = _ := hret
      subst hret
      clear hcc
      go_wp2_with fail
      go_ret
      exact ⟨rfl, by (repeat' (first | with_reducible exact Below.refl _ _ | with_reducible assumption | with_reducible refine Below.drew ?_ | with_reducible refine below_drewN ?_ _ | with_reducible refine Below.setCell ?_ ?_ _ | with_reducible refine Below.alloc ?_ ?_ _ | omega | (simp; done) | (simp; omega)))⟩
    · rename_i fs
      rw [hcc] at hret
      obtain ⟨v, rfl, _, _⟩ := hret
      clear hcc
      go_wp2_with fail
      go_ret
      exact ⟨rfl, by (repeat' (first | with_reducible exact Below.refl _ _ | with_reducible assumption | with_reducible refine Below.drew ?_ | with_reducible refine below_drewN ?_ _ | with_reducible refine Below.setCell ?_ ?_ _ | with_reducible refine Below.alloc ?_ ?_ _ | omega | (simp; done) | (simp; omega)))⟩
  rename_i out
  rw [ht] at hret
  obtain ⟨v1, rfl, own1⟩ := hret
  obtain ⟨fs, hcf, hfl, hol, hst, hfa⟩ := through_ok ht
  obtain ⟨A1, c1, hv1, _, _, hr1⟩ := Own.rows (enc := encI) (size := 1) (fun _ _ => rfl) own1
  subst hv1
  have HR1 := Lib.hid hr1
  have HCF := Lib.hid hcf
  have HST := Lib.hid hst
  have HFA := Lib.hid hfa
  clear ht own1 hr1 hcf hst hfa
  go_wp2_with fail
  refine (chain_any l A c E _ (by omega) HL2.out HI.out (HE.out.below (by (repeat' (first | with_reducible exact Below.refl _ _ | with_reducible assumption | with_reducible refine Below.drew ?_ | with_reducible refine below_drewN ?_ _ | with_reducible refine Below.setCell ?_ ?_ _ | with_reducible refine Below.alloc ?_ ?_ _ | omega | (simp; done) | (simp; omega)))))).mono ?_
  rintro e w5 ⟨hret, hb5⟩
  have hw5 : Below w.heap.size w w5 := stepH (by (repeat' (first | with_reducible exact Below.refl _ _ | with_reducible assumption | with_reducible refine Below.drew ?_ | with_reducible refine below_drewN ?_ _ | with_reducible refine Below.setCell ?_ ?_ _ | with_reducible refine Below.alloc ?_ ?_ _ | omega | (simp; done) | (simp; omega)))) hb5
  rw [HCF.out] at hret
  obtain ⟨v2, rfl, own2, hg2⟩ := hret
  obtain ⟨A2, c2, hv2, _, _, hr2⟩ := Own.rows (enc := encF) (size := 2) (fun _ _ => rfl) own2
  subst hv2
  rw [List.length_map]
  have HR2 := Lib.hid hr2
  have HG2 := Lib.hid hg2
  clear own2 hr2 hg2
  have HR1b := Lib.hid ((HR1.out.below hb5 (Nat.le_refl _)).more hb5.size)
  clear HR1
  have HL3 := Lib.hid ((HL2.out.below hb5 (Nat.le_refl _)).more hb5.size)
  clear HL2
  have z5 := hw5.size
  clear hb5 hw3 z3
  have HE3 := Lib.hid (HE.out.below hw5)
  have HWD := Lib.hid hw5
  clear HE
  have f1 : ((out.length : Int) != (fs.length : Int)) = false := by rw [hol]; simp
  have f2 : ((fs.length : Int) != max 0 ((l.length : Int) - 1)) = false := by rw [bne_eq_false_iff_eq]; omega
  have f3 : out.length ≤ fs.length := by omega
  have f4 : fs.length ≤ out.length := by omega
  have f5 : fs.length ≤ l.length - 1 := by omega
  have f6 : l.length - 1 ≤ fs.length := by omega
  clear hfl hol
  go_wp2_with fail
  clear f1 f2
  go_loopw [14, 15, 16] (fun ex x i wr => ∃ (k : Nat) (b : Bool) (xx : Int), ex = .bool b ∧ x = .int .i64 xx ∧ i = .int .i64 k ∧ k ≤ out.length ∧ Hid ((a :: out)[k]? = some xx) ∧ Hid (ExactI a l b k xx) ∧ -9223372036854775808 ≤ xx ∧ xx ≤ 9223372036854775807 ∧ Below w5.heap.size w5 wr) (fun _ _ i _ => out.length - (intOf i).toNat)
  case atStart => exact ⟨0, true, a, rfl, rfl, rfl, Nat.zero_le _, rfl, exactI_zero a l, Ba1, Ba2, Below.refl _ _⟩
  case round =>
    obtain ⟨k, b, xx, rfl, rfl, rfl, hk, hx, hex, x1, x2, hw0⟩ := hrel
    have z0 := hw0.size
    by_cases hlt : k < out.length
    · obtain ⟨q, hq⟩ : ∃ q, fs[k]? = some q := ⟨fs[k], List.getElem?_eq_getElem (by omega)⟩
      obtain ⟨y, hy⟩ : ∃ y, out[k]? = some y := ⟨out[k], List.getElem?_eq_getElem hlt⟩
      obtain ⟨lk, hlk⟩ : ∃ y, l[k]? = some y := ⟨l[k]'(by omega), List.getElem?_eq_getElem _⟩
      obtain ⟨l1, hl1⟩ : ∃ y, l[k + 1]? = some y := ⟨l[k + 1]'(by omega), List.getElem?_eq_getElem _⟩
      have hq' : (fs.map fq)[k]? = some (fq q) := by rw [List.getElem?_map, hq]; rfl
      obtain ⟨b2, off2, rfl, hbB2, hcell2⟩ := HR2.out k _ hq'
      have C0 : Hid (w5.cell? ⟨b2, off2 + k * 2, none⟩ = some (.int .i64 q.num)) := hcell2 0 _ rfl
      have C1 : Hid (w5.cell? ⟨b2, off2 + k * 2 + 1, none⟩ = some (.int .i64 q.den)) := hcell2 1 _ rfl
      obtain ⟨b1, off1, rfl, hbB1, hcell1⟩ := HR1b.out k _ hy
      have Y0 : Hid (w5.cell? ⟨b1, off1 + k, none⟩ = some (.int .i64 y)) := by have h := hcell1 0 _ rfl; rw [Nat.mul_one, Nat.add_zero] at h; exact h
      have gq := HG2.out q (List.mem_of_getElem? hq)
      have BQ := bds gq
      have HGQ := Lib.hid gq
      have HS := Lib.hid (HST.out k xx q y hx.out hq hy)
      have HF := Lib.hid (HFA.out k q lk l1 hq hlk hl1)
      have HNX : Hid ((a :: out)[k + 1]? = some y) := by show (a :: out)[k + 1]? = some y; rw [List.getElem?_cons_succ]; exact hy
      have HLK := Lib.hid hlk
      have HL1k := Lib.hid hl1
      clear hq hy hlk hl1 hq' hcell1 hcell2 gq
      obtain ⟨y1, y2⟩ := growI_le HS.out
      obtain ⟨f, gf, e1, e2, _, _, _, _, xx1, xx2, gx, _, _⟩ := grow_ok HS.out
      obtain rfl : q = f := fv_inj e1 e2
      have HGX := Lib.hid gx
      have HGK := Lib.hid (good_int xx1 xx2)
      clear e1 e2 gx gf
      generalize hxq : (xx : Rat) * q = x at *
      have HXQ := Lib.hid hxq
      have NX := num_le HGX.out
      clear hxq
      have c0 : wr.cell? ⟨b2, off2 + k * 2, none⟩ = some (.int .i64 q.num) := (hw0.cell (p := ⟨b2, _, none⟩) hbB2).trans C0.out
      have c1 : wr.cell? ⟨b2, off2 + k * 2 + 1, none⟩ = some (.int .i64 q.den) := (hw0.cell (p := ⟨b2, _, none⟩) hbB2).trans C1.out
      have s1 : (0 : Int) ≤ (k : Int) := by omega
      have s2 : (k : Int) < (fs.length : Int) := by omega
      have s3 : (k : Int) < (out.length : Int) := by omega
      go_wp2_with fail
      refine (grow_any xx q.num q.den unit mode E _ ⟨x1, x2⟩ ⟨BQ.1, BQ.2.1⟩ ⟨BQ.2.2.1, BQ.2.2.2⟩ HBu.out HBm.out (HE3.out.below (by (repeat' (first | with_reducible exact Below.refl _ _ | with_reducible assumption | with_reducible refine Below.drew ?_ | with_reducible refine below_drewN ?_ _ | with_reducible refine Below.setCell ?_ ?_ _ | with_reducible refine Below.alloc ?_ ?_ _ | omega | (simp; done) | (simp; omega)))))).mono ?_
      rintro e w21 ⟨⟨n, err, rfl, hr⟩, hb21⟩
      have hw21 : Below w5.heap.size w5 w21 := stepH (by (repeat' (first | with_reducible exact Below.refl _ _ | with_reducible assumption | with_reducible refine Below.drew ?_ | with_reducible refine below_drewN ?_ _ | with_reducible refine Below.setCell ?_ ?_ _ | with_reducible refine Below.alloc ?_ ?_ _ | omega | (simp; done) | (simp; omega)))) hb21
      rw [HS.out] at hr
      obtain ⟨rfl, rfl⟩ := hr
      have z21 := hw21.size
      clear hb21 hw0 z0
      clear c0 c1
      go_upto_region 16 with fail
      go_cut [19, 20] (fun s19 s20 wx => ∃ g : Nat, s19 = .pointer (some ⟨g, 0, none⟩) ∧ s20 = .nilIface ∧ Below w5.heap.size w5 wx ∧ Hid (wx.heap[g]? = some (.cells #[.int .i64 x.num, .int .i64 x.den] 30 (0, 0))))
      case first =>
        as_aux_lemma =>
          have hw22 := hw21
          have kx0 : w21.cell? ⟨b2, off2 + k * 2, none⟩ = some (.int .i64 q.num) := (hw22.cell (p := ⟨b2, _, none⟩) hbB2).trans C0.out
          have kx1 : w21.cell? ⟨b2, off2 + k * 2 + 1, none⟩ = some (.int .i64 q.den) := (hw22.cell (p := ⟨b2, _, none⟩) hbB2).trans C1.out
          go_region_held3 (fun w' => w'.cell? ⟨b2, off2 + k * 2, none⟩ = some (.int .i64 q.num) ∧ w'.cell? ⟨b2, off2 + k * 2 + 1, none⟩ = some (.int .i64 q.den)) (first | with_reducible exact ⟨kx0, kx1⟩ | with_reducible exact ⟨cell_set (cell_set kx0 (by first | assumption | (dsimp only; assumption) | (dsimp only; omega))) (by first | assumption | (dsimp only; assumption) | (dsimp only; omega)), cell_set (cell_set kx1 (by first | assumption | (dsimp only; assumption) | (dsimp only; omega))) (by first | assumption | (dsimp only; assumption) | (dsimp only; omega))⟩ | go_keep)
            (first | (go_at_call 28; refine (fr16_any _ _ _).mono ?_; rintro e w22 ⟨rfl, hb22⟩; have hw22 : Below w5.heap.size w5 w22 := stepH (by (repeat' (first | with_reducible exact Below.refl _ _ | with_reducible assumption | with_reducible refine Below.drew ?_ | with_reducible refine below_drewN ?_ _ | with_reducible refine Below.setCell ?_ ?_ _ | with_reducible refine Below.alloc ?_ ?_ _ | omega | (simp; done) | (simp; omega)))) hb22; have zw22 := hw22.size; (try (have NB := keepH hb22 (by with_reducible first | exact blk_new rfl | exact drew_old (blk_new rfl) | exact NB.out | exact drew_old NB.out); have cNB := cellH NB; have fNB := frozH NB)); have kx0 : w22.cell? ⟨b2, off2 + k * 2, none⟩ = some (.int .i64 q.num) := (hw22.cell (p := ⟨b2, _, none⟩) hbB2).trans C0.out; have kx1 : w22.cell? ⟨b2, off2 + k * 2 + 1, none⟩ = some (.int .i64 q.den) := (hw22.cell (p := ⟨b2, _, none⟩) hbB2).trans C1.out) | (go_at_call 25; refine (mul_int xx q E _ HGK.out HGQ.out ((HE3.out.below (by (repeat' (first | with_reducible exact Below.refl _ _ | with_reducible assumption | with_reducible refine Below.drew ?_ | with_reducible refine below_drewN ?_ _ | with_reducible refine Below.setCell ?_ ?_ _ | with_reducible refine Below.alloc ?_ ?_ _ | omega | (simp; done) | (simp; omega))))).sub (by decide))).mono ?_; rintro e w22 ⟨⟨n', d', err, rfl, hr⟩, hb22⟩; rw [HXQ.out] at hr; obtain ⟨_, rfl, rfl, rfl⟩ := mul_is hr HGX.out; have hw22 : Below w5.heap.size w5 w22 := stepH (by (repeat' (first | with_reducible exact Below.refl _ _ | with_reducible assumption | with_reducible refine Below.drew ?_ | with_reducible refine below_drewN ?_ _ | with_reducible refine Below.setCell ?_ ?_ _ | with_reducible refine Below.alloc ?_ ?_ _ | omega | (simp; done) | (simp; omega)))) hb22; have zw22 := hw22.size; (try (have NB := keepH hb22 (by with_reducible first | exact blk_new rfl | exact drew_old (blk_new rfl) | exact NB.out | exact drew_old NB.out); have cNB := cellH NB; have fNB := frozH NB)); have kx0 : w22.cell? ⟨b2, off2 + k * 2, none⟩ = some (.int .i64 q.num) := (hw22.cell (p := ⟨b2, _, none⟩) hbB2).trans C0.out; have kx1 : w22.cell? ⟨b2, off2 + k * 2 + 1, none⟩ = some (.int .i64 q.den) := (hw22.cell (p := ⟨b2, _, none⟩) hbB2).trans C1.out))
          all_goals go_wp2_with fail
          all_goals go_meet
          all_goals exact ⟨_, rfl, rfl, (by (repeat' (first | with_reducible exact Below.refl _ _ | with_reducible assumption | with_reducible refine Below.drew ?_ | with_reducible refine below_drewN ?_ _ | with_reducible refine Below.setCell ?_ ?_ _ | with_reducible refine Below.alloc ?_ ?_ _ | omega | (simp; done) | (simp; omega)))), (by first | with_reducible exact setH2 NB.out | exact blk_new rfl)⟩
      case rest =>
        as_aux_lemma =>
          obtain ⟨gX, rfl, rfl, hw23, X⟩ := hcut
          obtain ⟨w23, rfl⟩ : ∃ x : World, x = wc := ⟨_, rfl⟩
          have z23 := hw23.size
          have cX := cellH X
          obtain ⟨lX, lX1, lX2⟩ := ltH X
          have y0 : w23.cell? ⟨b1, off1 + k, none⟩ = some (.int .i64 n) := (hw23.cell (p := ⟨b1, _, none⟩) hbB1).trans Y0.out
          cases b
          · go_wp2_with fail
            go_region
            all_goals go_wp2_with fail
            all_goals go_roundw
            all_goals first | (case rel => exact ⟨k + 1, false, n, rfl, rfl, by go_num, by omega, HNX.out, exactI_false _ _ _ _, by omega, by omega, by (repeat' (first | with_reducible exact Below.refl _ _ | with_reducible assumption | with_reducible refine Below.drew ?_ | with_reducible refine below_drewN ?_ _ | with_reducible refine Below.setCell ?_ ?_ _ | with_reducible refine Below.alloc ?_ ?_ _ | omega | (simp; done) | (simp; omega)))⟩) | skip
            all_goals (simp [intOf]; omega)
          · go_wp2_with fail
            go_region_held3 (fun w' => w'.cell? ⟨gX, 0, none⟩ = some (.int .i64 x.num) ∧ w'.cell? ⟨gX, 1, none⟩ = some (.int .i64 x.den)) (first | exact ⟨cellH X 0, cellH X 1⟩ | go_keep)
              (first | (go_at_call 28; refine (fr16_any _ _ _).mono ?_; rintro e w24 ⟨rfl, hb24⟩; have hw24 : Below w5.heap.size w5 w24 := stepH (by (repeat' (first | with_reducible exact Below.refl _ _ | with_reducible assumption | with_reducible refine Below.drew ?_ | with_reducible refine below_drewN ?_ _ | with_reducible refine Below.setCell ?_ ?_ _ | with_reducible refine Below.alloc ?_ ?_ _ | omega | (simp; done) | (simp; omega)))) hb24; replace X := keepH hb24 X.out) | (go_at_call 17; refine (same_any _ _ _ _ _).mono ?_; rintro e w24 ⟨rfl, hb24⟩; have hw24 : Below w5.heap.size w5 w24 := stepH (by (repeat' (first | with_reducible exact Below.refl _ _ | with_reducible assumption | with_reducible refine Below.drew ?_ | with_reducible refine below_drewN ?_ _ | with_reducible refine Below.setCell ?_ ?_ _ | with_reducible refine Below.alloc ?_ ?_ _ | omega | (simp; done) | (simp; omega)))) hb24; replace X := keepH hb24 X.out))
            clear cX lX lX1 lX2
            have z24 := hw24.size
            all_goals go_wp2_with fail
            all_goals go_roundw
            case rel => exact ⟨k + 1, (x.num == n && (x.den : Int) == 1), n, rfl, rfl, by go_num, by omega, HNX.out, by have h := exactI_step (y := n) hex.out HLK.out HL1k.out HF.out; rw [HXQ.out] at h; exact h, by omega, by omega, by (repeat' (first | with_reducible exact Below.refl _ _ | with_reducible assumption | with_reducible refine Below.drew ?_ | with_reducible refine below_drewN ?_ _ | with_reducible refine Below.setCell ?_ ?_ _ | with_reducible refine Below.alloc ?_ ?_ _ | omega | (simp; done) | (simp; omega)))⟩
            case measure => simp [intOf]; omega
    · obtain rfl : k = out.length := by omega
      clear hlt
      cases b
      · go_wp2_with fail
        go_ret
        exact ⟨rfl, stepH HWD.out hw0⟩
      by_cases h0 : out.length = 0
      · have h0b : ((out.length : Int) == 0) = true := by simp [h0]
        clear h0
        go_wp2_with fail
        go_ret
        exact ⟨rfl, stepH HWD.out hw0⟩
      have h0b : ((out.length : Int) == 0) = false := by simpa using h0
      have hop : 1 ≤ out.length := by omega
      clear h0
      obtain ⟨m, hml⟩ : ∃ m : Nat, m = l.length - 1 := ⟨_, rfl⟩
      have m1 : m + 1 ≤ l.length := by omega
      have m2 : l.length ≤ m + 1 := by omega
      have m3 : m ≤ out.length := by omega
      have m4 : out.length ≤ m := by omega
      clear hml
      obtain ⟨ln, hln⟩ : ∃ y, l[m]? = some y := ⟨l[m]'(by omega), List.getElem?_eq_getElem _⟩
      obtain ⟨l0, hl0⟩ : ∃ y, l[0]? = some y := ⟨l[0]'(by omega), List.getElem?_eq_getElem _⟩
      obtain ⟨q0, hq0⟩ : ∃ q, fs[0]? = some q := ⟨fs[0]'(by omega), List.getElem?_eq_getElem _⟩
      obtain ⟨y0, hy0⟩ : ∃ y, out[0]? = some y := ⟨out[0]'(by omega), List.getElem?_eq_getElem _⟩
      obtain ⟨ym, hym⟩ : ∃ y, out[m - 1]? = some y := ⟨out[m - 1]'(by omega), List.getElem?_eq_getElem _⟩
      obtain ⟨_, _, _, _, _, _, _, _, aa1, aa2, _⟩ := grow_ok (HST.out 0 a q0 y0 rfl hq0 hy0)
      have hxl : out[out.length - 1]? = some xx := by have h := hx.out; obtain ⟨j, hj⟩ : ∃ j, out.length = j + 1 := ⟨out.length - 1, by omega⟩; rw [hj, List.getElem?_cons_succ] at h; rw [hj]; exact h
      obtain ⟨qm, hqm⟩ : ∃ q, fs[out.length - 1]? = some q := ⟨fs[out.length - 1]'(by omega), List.getElem?_eq_getElem _⟩
      obtain ⟨xm, hxm⟩ : ∃ y, (a :: out)[out.length - 1]? = some y := ⟨(a :: out)[out.length - 1]'(by simp; omega), List.getElem?_eq_getElem _⟩
      obtain ⟨xx1, xx2⟩ := growI_le (HST.out (out.length - 1) xm qm xx hxm hqm hxl)
      have HGA := Lib.hid (good_int aa1 aa2)
      have HGXX := Lib.hid (good_int xx1 xx2)
      have HEX := Lib.hid (hex.out rfl l0 ln hl0 (by rw [show out.length = m by omega]; exact hln))
      obtain ⟨b0, off0, rfl, hbB, hcell0⟩ := HL3.out 0 _ hl0
      obtain ⟨b1, off1, hbe, _, hcelln⟩ := HL3.out m _ hln
      injection hbe with hbe
      injection hbe with hb1 hb2
      subst hb1 hb2
      have L0 : Hid (w5.cell? ⟨b0, off0, none⟩ = some (.int .i64 l0)) := by have h := hcell0 0 _ rfl; show _ = _; simpa using h
      have LN : Hid (w5.cell? ⟨b0, off0 + m, none⟩ = some (.int .i64 ln)) := by have h := hcelln 0 _ rfl; rw [Nat.mul_one, Nat.add_zero] at h; exact h
      obtain ⟨i0a, i0b⟩ := HI.out _ (List.mem_of_getElem? hl0)
      obtain ⟨i1a, i1b⟩ := HI.out _ (List.mem_of_getElem? hln)
      clear hl0 hln hq0 hy0 hym hxl hqm hxm hcell0 hcelln
      cases hf : factorR ln l0
      · rename_i ge
        have HF := Lib.hid hf
        clear hf
        go_upto_region 23 with fail
        go_cut [21, 22] (fun s21 s22 wx => ∃ g : Nat, s21 = .pointer (some ⟨g, 0, none⟩) ∧ s22 = .iface 106 (.pointer (some (E ge))) ∧ Below w5.heap.size w5 wx ∧ Hid (wx.heap[g]? = some (.cells #[.int .i64 0, .int .i64 0] 30 (0, 0))))
        case first =>
          as_aux_lemma =>
            have hw25 := hw0
            have kl0 : wr.cell? ⟨b0, off0, none⟩ = some (.int .i64 l0) := (hw25.cell (p := ⟨b0, _, none⟩) hbB).trans L0.out
            have kln : wr.cell? ⟨b0, off0 + m, none⟩ = some (.int .i64 ln) := (hw25.cell (p := ⟨b0, _, none⟩) hbB).trans LN.out
            have s2 : IntKind.i64.wrap ((m : Int)) = (m : Int) := IntWalk.i64_in _ (by omega)
            have s1 : IntKind.i64.wrap ((l.length : Int) - 1) = (m : Int) := by rw [show (l.length : Int) - 1 = m by omega]; exact IntWalk.i64_in _ (by omega)
            have s3 : (0 : Int) ≤ (m : Int) := by omega
            have s4 : (m : Int) < (l.length : Int) := by omega
            have s5 : (0 : Int) < (l.length : Int) := by omega
            have s6 : ((m : Int)).toNat = m := by omega
            have s7 : (l.length : Int) - 1 = (m : Int) := by omega
            have s8 : m < l.length := by omega
            have s9 : 0 < l.length := by omega
            go_region_held3 (fun w' => w'.cell? ⟨b0, off0, none⟩ = some (.int .i64 l0) ∧ w'.cell? ⟨b0, off0 + m, none⟩ = some (.int .i64 ln)) (first | with_reducible exact ⟨kl0, kln⟩ | with_reducible exact ⟨cell_set (cell_set kl0 (by first | assumption | (dsimp only; assumption) | (dsimp only; omega))) (by first | assumption | (dsimp only; assumption) | (dsimp only; omega)), cell_set (cell_set kln (by first | assumption | (dsimp only; assumption) | (dsimp only; omega))) (by first | assumption | (dsimp only; assumption) | (dsimp only; omega))⟩ | go_keep)
              (first | (go_at_call 31; refine (factor_any ln l0 E _ i1a i1b i0a i0b (HE3.out.below (by (repeat' (first | with_reducible exact Below.refl _ _ | with_reducible assumption | with_reducible refine Below.drew ?_ | with_reducible refine below_drewN ?_ _ | with_reducible refine Below.setCell ?_ ?_ _ | with_reducible refine Below.alloc ?_ ?_ _ | omega | (simp; done) | (simp; omega)))))).mono ?_; rintro e w25 ⟨⟨n', d', err, rfl, hr⟩, hb25⟩; rw [HF.out] at hr; obtain ⟨rfl, rfl, rfl⟩ := hr; have hw25 : Below w5.heap.size w5 w25 := stepH (by (repeat' (first | with_reducible exact Below.refl _ _ | with_reducible assumption | with_reducible refine Below.drew ?_ | with_reducible refine below_drewN ?_ _ | with_reducible refine Below.setCell ?_ ?_ _ | with_reducible refine Below.alloc ?_ ?_ _ | omega | (simp; done) | (simp; omega)))) hb25; have zw25 := hw25.size; (try (have NB := keepH hb25 (by with_reducible first | exact blk_new rfl | exact drew_old (blk_new rfl) | exact NB.out | exact drew_old NB.out); have cNB := cellH NB; have fNB := frozH NB)); have kl0 : w25.cell? ⟨b0, off0, none⟩ = some (.int .i64 l0) := (hw25.cell (p := ⟨b0, _, none⟩) hbB).trans L0.out; have kln : w25.cell? ⟨b0, off0 + m, none⟩ = some (.int .i64 ln) := (hw25.cell (p := ⟨b0, _, none⟩) hbB).trans LN.out))
            all_goals go_wp2_with fail
            all_goals go_meet
            all_goals exact ⟨_, rfl, rfl, (by (repeat' (first | with_reducible exact Below.refl _ _ | with_reducible assumption | with_reducible refine Below.drew ?_ | with_reducible refine below_drewN ?_ _ | with_reducible refine Below.setCell ?_ ?_ _ | with_reducible refine Below.alloc ?_ ?_ _ | omega | (simp; done) | (simp; omega)))), (by first | with_reducible exact setH2 NB.out | exact blk_new rfl)⟩
        case rest =>
          as_aux_lemma =>
            obtain ⟨gQ, rfl, rfl, hw26, Q⟩ := hcut
            obtain ⟨w26, rfl⟩ : ∃ x : World, x = wc := ⟨_, rfl⟩
            have z26 := hw26.size
            have cQ := cellH Q
            obtain ⟨lQ, lQ1, lQ2⟩ := ltH Q
            go_upto_region 24 with fail
            go_cut [23, 24] (fun s23 s24 wx => ∃ g : Nat, s23 = .pointer (some ⟨g, 0, none⟩) ∧ s24 = (.iface 106 (.pointer (some (E 2)))) ∧ Below w5.heap.size w5 wx ∧ Hid (wx.heap[gQ]? = some (.cells #[.int .i64 0, .int .i64 0] 30 (0, 0))) ∧ Hid (wx.heap[g]? = some (.cells #[.int .i64 0, .int .i64 0] 30 (0, 0))))
            case first =>
              as_aux_lemma =>
                clear cQ lQ lQ1 lQ2
                have kQ0 : w26.cell? ⟨gQ, 0, none⟩ = some (.int .i64 0) := cellH Q 0
                have kQ1 : w26.cell? ⟨gQ, 1, none⟩ = some (.int .i64 0) := cellH Q 1
                have lQ := lt_of_H Q
                have nQ : gQ ≠ w26.heap.size := Nat.ne_of_lt lQ
                go_region_held3 (fun w' => w'.cell? ⟨gQ, 0, none⟩ = some (.int .i64 0) ∧ w'.cell? ⟨gQ, 1, none⟩ = some (.int .i64 0)) (first | with_reducible exact ⟨kQ0, kQ1⟩ | with_reducible exact ⟨cell_set (cell_set kQ0 (by first | assumption | (dsimp only; assumption) | (dsimp only; omega))) (by first | assumption | (dsimp only; assumption) | (dsimp only; omega)), cell_set (cell_set kQ1 (by first | assumption | (dsimp only; assumption) | (dsimp only; omega))) (by first | assumption | (dsimp only; assumption) | (dsimp only; omega))⟩ | go_keep)
                  (first | (go_at_call 28; refine (fr16_any _ _ _).mono ?_; rintro e w27 ⟨rfl, hb27⟩; have hw27 : Below w5.heap.size w5 w27 := stepH (by (repeat' (first | with_reducible exact Below.refl _ _ | with_reducible assumption | with_reducible refine Below.drew ?_ | with_reducible refine below_drewN ?_ _ | with_reducible refine Below.setCell ?_ ?_ _ | with_reducible refine Below.alloc ?_ ?_ _ | omega | (simp; done) | (simp; omega)))) hb27; have zw27 := hw27.size; (try (have NB := keepH hb27 (by with_reducible first | exact blk_new rfl | exact drew_old (blk_new rfl) | exact NB.out | exact drew_old NB.out); have cNB := cellH NB; have fNB := frozH NB)); replace Q := keepH hb27 (by first | with_reducible exact Q.out | with_reducible exact blk_old Q.out | with_reducible exact drew_old Q.out | with_reducible exact drew_old (blk_old Q.out)); have kQ0 : w27.cell? ⟨gQ, 0, none⟩ = some (.int .i64 0) := cellH Q 0; have kQ1 : w27.cell? ⟨gQ, 1, none⟩ = some (.int .i64 0) := cellH Q 1; have lQ := lt_of_H Q; have nQ : gQ ≠ w27.heap.size := Nat.ne_of_lt lQ) | (go_at_call 25; refine (mul_any a 1 0 0 E _ (by omega) (by omega) (by omega) (by omega) (by omega) (by omega) (by omega) (by omega) ((HE3.out.below (by (repeat' (first | with_reducible exact Below.refl _ _ | with_reducible assumption | with_reducible refine Below.drew ?_ | with_reducible refine below_drewN ?_ _ | with_reducible refine Below.setCell ?_ ?_ _ | with_reducible refine Below.alloc ?_ ?_ _ | omega | (simp; done) | (simp; omega))))).sub (by decide))).mono ?_; rintro e w27 ⟨⟨n', d', err, rfl, hr⟩, hb27⟩; rw [opI_bad _ (by rw [Bool.and_eq_false_iff]; exact .inr (by decide))] at hr; obtain ⟨rfl, rfl, rfl⟩ := hr; have hw27 : Below w5.heap.size w5 w27 := stepH (by (repeat' (first | with_reducible exact Below.refl _ _ | with_reducible assumption | with_reducible refine Below.drew ?_ | with_reducible refine below_drewN ?_ _ | with_reducible refine Below.setCell ?_ ?_ _ | with_reducible refine Below.alloc ?_ ?_ _ | omega | (simp; done) | (simp; omega)))) hb27; have zw27 := hw27.size; (try (have NB := keepH hb27 (by with_reducible first | exact blk_new rfl | exact drew_old (blk_new rfl) | exact NB.out | exact drew_old NB.out); have cNB := cellH NB; have fNB := frozH NB)); replace Q := keepH hb27 (by first | with_reducible exact Q.out | with_reducible exact blk_old Q.out | with_reducible exact drew_old Q.out | with_reducible exact drew_old (blk_old Q.out)); have kQ0 : w27.cell? ⟨gQ, 0, none⟩ = some (.int .i64 0) := cellH Q 0; have kQ1 : w27.cell? ⟨gQ, 1, none⟩ = some (.int .i64 0) := cellH Q 1; have lQ := lt_of_H Q; have nQ : gQ ≠ w27.heap.size := Nat.ne_of_lt lQ))
                all_goals go_wp2_with fail
                all_goals go_meet
                all_goals exact ⟨_, rfl, rfl, (by (repeat' (first | with_reducible exact Below.refl _ _ | with_reducible assumption | with_reducible refine Below.drew ?_ | with_reducible refine below_drewN ?_ _ | with_reducible refine Below.setCell ?_ ?_ _ | with_reducible refine Below.alloc ?_ ?_ _ | omega | (simp; done) | (simp; omega)))), (by with_reducible first | exact Q | exact setH2o Q (by assumption) | exact Lib.hid (blk_old Q.out)), (by first | with_reducible exact setH2 NB.out | exact blk_new rfl)⟩
            case rest =>
              as_aux_lemma =>
                clear Q
                obtain ⟨gP, rfl, rfl, hw28, Q, P⟩ := hcut
                obtain ⟨w28, rfl⟩ : ∃ x : World, x = wc := ⟨_, rfl⟩
                have z28 := hw28.size
                have cQ := cellH Q
                obtain ⟨lQ, lQ1, lQ2⟩ := ltH Q
                have cP := cellH P
                obtain ⟨lP, lP1, lP2⟩ := ltH P
                have hen := fun w => eql_nil (E ge) w
                go_wp2_with fail
                go_region
                all_goals go_wp2_with fail
                all_goals go_ret
                all_goals exact ⟨rfl, stepH HWD.out (by (repeat' (first | with_reducible exact Below.refl _ _ | with_reducible assumption | with_reducible refine Below.drew ?_ | with_reducible refine below_drewN ?_ _ | with_reducible refine Below.setCell ?_ ?_ _ | with_reducible refine Below.alloc ?_ ?_ _ | omega | (simp; done) | (simp; omega))))⟩
      · rename_i qe
        have HF := Lib.hid hf
        have HGQ := Lib.hid (factorR_good hf)
        have BQ := bds (factorR_good hf)
        have HEN := Lib.hid (exact_end hf HEX.out)
        clear hf
        go_upto_region 23 with fail
        go_cut [21, 22] (fun s21 s22 wx => ∃ g : Nat, s21 = .pointer (some ⟨g, 0, none⟩) ∧ s22 = .nilIface ∧ Below w5.heap.size w5 wx ∧ Hid (wx.heap[g]? = some (.cells #[.int .i64 qe.num, .int .i64 qe.den] 30 (0, 0))))
        case first =>
          as_aux_lemma =>
            have hw29 := hw0
            have kl0 : wr.cell? ⟨b0, off0, none⟩ = some (.int .i64 l0) := (hw29.cell (p := ⟨b0, _, none⟩) hbB).trans L0.out
            have kln : wr.cell? ⟨b0, off0 + m, none⟩ = some (.int .i64 ln) := (hw29.cell (p := ⟨b0, _, none⟩) hbB).trans LN.out
            have s2 : IntKind.i64.wrap ((m : Int)) = (m : Int) := IntWalk.i64_in _ (by omega)
            have s1 : IntKind.i64.wrap ((l.length : Int) - 1) = (m : Int) := by rw [show (l.length : Int) - 1 = m by omega]; exact IntWalk.i64_in _ (by omega)
            have s3 : (0 : Int) ≤ (m : Int) := by omega
            have s4 : (m : Int) < (l.length : Int) := by omega
            have s5 : (0 : Int) < (l.length : Int) := by omega
            have s6 : ((m : Int)).toNat = m := by omega
            have s7 : (l.length : Int) - 1 = (m : Int) := by omega
            have s8 : m < l.length := by omega
            have s9 : 0 < l.length := by omega
            go_region_held3 (fun w' => w'.cell? ⟨b0, off0, none⟩ = some (.int .i64 l0) ∧ w'.cell? ⟨b0, off0 + m, none⟩ = some (.int .i64 ln)) (first | with_reducible exact ⟨kl0, kln⟩ | with_reducible exact ⟨cell_set (cell_set kl0 (by first | assumption | (dsimp only; assumption) | (dsimp only; omega))) (by first | assumption | (dsimp only; assumption) | (dsimp only; omega)), cell_set (cell_set kln (by first | assumption | (dsimp only; assumption) | (dsimp only; omega))) (by first | assumption | (dsimp only; assumption) | (dsimp only; omega))⟩ | go_keep)
              (first | (go_at_call 31; refine (factor_any ln l0 E _ i1a i1b i0a i0b (HE3.out.below (by (repeat' (first | with_reducible exact Below.refl _ _ | with_reducible assumption | with_reducible refine Below.drew ?_ | with_reducible refine below_drewN ?_ _ | with_reducible refine Below.setCell ?_ ?_ _ | with_reducible refine Below.alloc ?_ ?_ _ | omega | (simp; done) | (simp; omega)))))).mono ?_; rintro e w29 ⟨⟨n', d', err, rfl, hr⟩, hb29⟩; rw [HF.out] at hr; obtain ⟨rfl, rfl, rfl⟩ := hr; have hw29 : Below w5.heap.size w5 w29 := stepH (by (repeat' (first | with_reducible exact Below.refl _ _ | with_reducible assumption | with_reducible refine Below.drew ?_ | with_reducible refine below_drewN ?_ _ | with_reducible refine Below.setCell ?_ ?_ _ | with_reducible refine Below.alloc ?_ ?_ _ | omega | (simp; done) | (simp; omega)))) hb29; have zw29 := hw29.size; (try (have NB := keepH hb29 (by with_reducible first | exact blk_new rfl | exact drew_old (blk_new rfl) | exact NB.out | exact drew_old NB.out); have cNB := cellH NB; have fNB := frozH NB)); have kl0 : w29.cell? ⟨b0, off0, none⟩ = some (.int .i64 l0) := (hw29.cell (p := ⟨b0, _, none⟩) hbB).trans L0.out; have kln : w29.cell? ⟨b0, off0 + m, none⟩ = some (.int .i64 ln) := (hw29.cell (p := ⟨b0, _, none⟩) hbB).trans LN.out))
            all_goals go_wp2_with fail
            all_goals go_meet
            all_goals exact ⟨_, rfl, rfl, (by (repeat' (first | with_reducible exact Below.refl _ _ | with_reducible assumption | with_reducible refine Below.drew ?_ | with_reducible refine below_drewN ?_ _ | with_reducible refine Below.setCell ?_ ?_ _ | with_reducible refine Below.alloc ?_ ?_ _ | omega | (simp; done) | (simp; omega)))), (by first | with_reducible exact setH2 NB.out | exact blk_new rfl)⟩
        case rest =>
          as_aux_lemma =>
            obtain ⟨gQ, rfl, rfl, hw30, Q⟩ := hcut
            obtain ⟨w30, rfl⟩ : ∃ x : World, x = wc := ⟨_, rfl⟩
            have z30 := hw30.size
            have cQ := cellH Q
            obtain ⟨lQ, lQ1, lQ2⟩ := ltH Q
            go_upto_region 24 with fail
            go_cut [23, 24] (fun s23 s24 wx => ∃ g : Nat, s23 = .pointer (some ⟨g, 0, none⟩) ∧ s24 = .nilIface ∧ Below w5.heap.size w5 wx ∧ Hid (wx.heap[gQ]? = some (.cells #[.int .i64 qe.num, .int .i64 qe.den] 30 (0, 0))) ∧ Hid (wx.heap[g]? = some (.cells #[.int .i64 xx, .int .i64 1] 30 (0, 0))))
            case first =>
              as_aux_lemma =>
                clear cQ lQ lQ1 lQ2
                have kQ0 : w30.cell? ⟨gQ, 0, none⟩ = some (.int .i64 qe.num) := cellH Q 0
                have kQ1 : w30.cell? ⟨gQ, 1, none⟩ = some (.int .i64 qe.den) := cellH Q 1
                have lQ := lt_of_H Q
                have nQ : gQ ≠ w30.heap.size := Nat.ne_of_lt lQ
                go_region_held3 (fun w' => w'.cell? ⟨gQ, 0, none⟩ = some (.int .i64 qe.num) ∧ w'.cell? ⟨gQ, 1, none⟩ = some (.int .i64 qe.den)) (first | with_reducible exact ⟨kQ0, kQ1⟩ | with_reducible exact ⟨cell_set (cell_set kQ0 (by first | assumption | (dsimp only; assumption) | (dsimp only; omega))) (by first | assumption | (dsimp only; assumption) | (dsimp only; omega)), cell_set (cell_set kQ1 (by first | assumption | (dsimp only; assumption) | (dsimp only; omega))) (by first | assumption | (dsimp only; assumption) | (dsimp only; omega))⟩ | go_keep)
                  (first | (go_at_call 28; refine (fr16_any _ _ _).mono ?_; rintro e w31 ⟨rfl, hb31⟩; have hw31 : Below w5.heap.size w5 w31 := stepH (by (repeat' (first | with_reducible exact Below.refl _ _ | with_reducible assumption | with_reducible refine Below.drew ?_ | with_reducible refine below_drewN ?_ _ | with_reducible refine Below.setCell ?_ ?_ _ | with_reducible refine Below.alloc ?_ ?_ _ | omega | (simp; done) | (simp; omega)))) hb31; have zw31 := hw31.size; (try (have NB := keepH hb31 (by with_reducible first | exact blk_new rfl | exact drew_old (blk_new rfl) | exact NB.out | exact drew_old NB.out); have cNB := cellH NB; have fNB := frozH NB)); replace Q := keepH hb31 (by first | with_reducible exact Q.out | with_reducible exact blk_old Q.out | with_reducible exact drew_old Q.out | with_reducible exact drew_old (blk_old Q.out)); have kQ0 : w31.cell? ⟨gQ, 0, none⟩ = some (.int .i64 qe.num) := cellH Q 0; have kQ1 : w31.cell? ⟨gQ, 1, none⟩ = some (.int .i64 qe.den) := cellH Q 1; have lQ := lt_of_H Q; have nQ : gQ ≠ w31.heap.size := Nat.ne_of_lt lQ) | (go_at_call 25; refine (mul_int a qe E _ HGA.out HGQ.out ((HE3.out.below (by (repeat' (first | with_reducible exact Below.refl _ _ | with_reducible assumption | with_reducible refine Below.drew ?_ | with_reducible refine below_drewN ?_ _ | with_reducible refine Below.setCell ?_ ?_ _ | with_reducible refine Below.alloc ?_ ?_ _ | omega | (simp; done) | (simp; omega))))).sub (by decide))).mono ?_; rintro e w31 ⟨⟨n', d', err, rfl, hr⟩, hb31⟩; rw [HEN.out] at hr; obtain ⟨_, hn1, hd1, rfl⟩ := mul_is hr HGXX.out; have hn2 : xx = n' := hn1.symm; subst hn2; obtain rfl : d' = 1 := hd1; clear hn1; have hw31 : Below w5.heap.size w5 w31 := stepH (by (repeat' (first | with_reducible exact Below.refl _ _ | with_reducible assumption | with_reducible refine Below.drew ?_ | with_reducible refine below_drewN ?_ _ | with_reducible refine Below.setCell ?_ ?_ _ | with_reducible refine Below.alloc ?_ ?_ _ | omega | (simp; done) | (simp; omega)))) hb31; have zw31 := hw31.size; (try (have NB := keepH hb31 (by with_reducible first | exact blk_new rfl | exact drew_old (blk_new rfl) | exact NB.out | exact drew_old NB.out); have cNB := cellH NB; have fNB := frozH NB)); replace Q := keepH hb31 (by first | with_reducible exact Q.out | with_reducible exact blk_old Q.out | with_reducible exact drew_old Q.out | with_reducible exact drew_old (blk_old Q.out)); have kQ0 : w31.cell? ⟨gQ, 0, none⟩ = some (.int .i64 qe.num) := cellH Q 0; have kQ1 : w31.cell? ⟨gQ, 1, none⟩ = some (.int .i64 qe.den) := cellH Q 1; have lQ := lt_of_H Q; have nQ : gQ ≠ w31.heap.size := Nat.ne_of_lt lQ))
                all_goals go_wp2_with fail
                all_goals go_meet
                all_goals exact ⟨_, rfl, rfl, (by (repeat' (first | with_reducible exact Below.refl _ _ | with_reducible assumption | with_reducible refine Below.drew ?_ | with_reducible refine below_drewN ?_ _ | with_reducible refine Below.setCell ?_ ?_ _ | with_reducible refine Below.alloc ?_ ?_ _ | omega | (simp; done) | (simp; omega)))), (by with_reducible first | exact Q | exact setH2o Q (by assumption) | exact Lib.hid (blk_old Q.out)), (by first | with_reducible exact setH2 NB.out | exact blk_new rfl)⟩
            case rest =>
              as_aux_lemma =>
                clear Q
                obtain ⟨gP, rfl, rfl, hw32, Q, P⟩ := hcut
                obtain ⟨w32, rfl⟩ : ∃ x : World, x = wc := ⟨_, rfl⟩
                have z32 := hw32.size
                have cQ := cellH Q
                obtain ⟨lQ, lQ1, lQ2⟩ := ltH Q
                have cP := cellH P
                obtain ⟨lP, lP1, lP2⟩ := ltH P
                go_wp2_with fail
                go_region_held3 (fun w' => w'.cell? ⟨gP, 0, none⟩ = some (.int .i64 xx) ∧ w'.cell? ⟨gP, 1, none⟩ = some (.int .i64 1)) (first | exact ⟨cellH P 0, cellH P 1⟩ | go_keep)
                  (first | (go_at_call 28; refine (fr16_any _ _ _).mono ?_; rintro e w33 ⟨rfl, hb33⟩; have hw33 : Below w5.heap.size w5 w33 := stepH (by (repeat' (first | with_reducible exact Below.refl _ _ | with_reducible assumption | with_reducible refine Below.drew ?_ | with_reducible refine below_drewN ?_ _ | with_reducible refine Below.setCell ?_ ?_ _ | with_reducible refine Below.alloc ?_ ?_ _ | omega | (simp; done) | (simp; omega)))) hb33; replace Q := keepH hb33 Q.out; replace P := keepH hb33 P.out) | (go_at_call 17; refine (first_same _ _ _).mono ?_; rintro e w33 ⟨rfl, hb33⟩; have hw33 : Below w5.heap.size w5 w33 := stepH (by (repeat' (first | with_reducible exact Below.refl _ _ | with_reducible assumption | with_reducible refine Below.drew ?_ | with_reducible refine below_drewN ?_ _ | with_reducible refine Below.setCell ?_ ?_ _ | with_reducible refine Below.alloc ?_ ?_ _ | omega | (simp; done) | (simp; omega)))) hb33; replace Q := keepH hb33 Q.out; replace P := keepH hb33 P.out))
                clear cQ lQ lQ1 lQ2 cP lP lP1 lP2
                have z33 := hw33.size
                all_goals go_wp2_with fail
                all_goals go_ret
                all_goals exact ⟨rfl, stepH HWD.out (by (repeat' (first | with_reducible exact Below.refl _ _ | with_reducible assumption | with_reducible refine Below.drew ?_ | with_reducible refine below_drewN ?_ _ | with_reducible refine Below.setCell ?_ ?_ _ | with_reducible refine Below.alloc ?_ ?_ _ | omega | (simp; done) | (simp; omega))))⟩

end Go.Proofs.YtcbglkkmblmbnaaDoor
