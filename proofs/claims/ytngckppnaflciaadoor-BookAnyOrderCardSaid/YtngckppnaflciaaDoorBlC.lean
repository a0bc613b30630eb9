/- tithelaw8.num, first: walks. -/
import Derived.Test.YtngckppnaflciaaDoorBlB
namespace Go.Proofs.YtngckppnaflciaaDoor
open Go.RowKit Go.Maps

theorem heap_only {w w' : World} {M g : Nat} {cs : Array Value} {t : TypeId} {z : Nat × Nat} (h : w.heap[g]? = some (.cells cs t z)) (ho : OnlyL [M] w w') (hm : ∃ es k, w.heap[M]? = some (.map es k)) : w'.heap[g]? = some (.cells cs t z) := by
  obtain ⟨es, k, hm⟩ := hm
  exact (ho.block g (Array.getElem?_eq_some_iff.1 h).1 (by simp; rintro rfl; rw [h] at hm; cases hm)).trans h
theorem only_below {b M : Nat} {w w1 w2 : World} (h : Below b w w1) (ho : OnlyL [M] w1 w2) (hM : b ≤ M) (hb : b ≤ w1.heap.size) : Below b w w2 := h.trans (ho.below hb (fun k hk => by simp at hk; omega))
theorem noneAt (p : Pv) (W : World) (h : p.scale = []) : PvAt W W.heap.size p none 0 := ⟨by rw [h]; exact RowAt.nil, fun _ => rfl⟩

set_option maxRecDepth 100000 in
theorem num_any (id key : ByteArray) (ena : Int) (w : World) : Calls Tryd.prog 11 #[.string id, .string key, .int .i64 ena] w fun e w' => e = .returned (pvV (numPv id key ena) none 0) ∧ Below w.heap.size w w' := by
  go_enter Tryd.func11, Tryd.ntmps11
  go_wp2_with fail
  have R := Lib.hid (blk_new (w := w) (o := .cells #[.string id, .string key, .int .i64 0, .int .i64 9, .int .i64 ena, .int .i64 0, .string ⟨#[]⟩, .int .i64 1, .int .i64 1, .int .i64 1, .slice none 0 0, .string ⟨#[]⟩, .int .i64 0, .int .i64 0, .int .i64 0] 43) rfl)
  have cR := cellH R
  exact bodyPost_ret (v := pvV (numPv id key ena) none 0) (by simp [results, Tryd.results11, go_sem, cR, pvV, numPv]) rfl ⟨rfl, by (repeat' (first | with_reducible exact Below.refl _ _ | with_reducible assumption | with_reducible refine Below.drew ?_ | with_reducible refine below_drewN ?_ _ | with_reducible refine Below.setCell ?_ ?_ _ | with_reducible refine Below.alloc ?_ ?_ _ | omega | (simp; done) | (simp; omega)))⟩

theorem ne_id {p q : Pv} (h : idb p ≠ idb q) : p.id ≠ q.id := fun e => h (by unfold idb; rw [e])

set_option maxRecDepth 100000 in
set_option maxHeartbeats 16000000 in
theorem first8_any (E : Nat → Addr) (m : Int) (w : World) (hE : Env LB E w) (hm : w.cell? ⟨12, 0, none⟩ = some (.int .i64 m)) :
    Calls Tryd.prog 4 #[] w fun e w' => e = .returned (.bool true) ∧ Below w.heap.size w w' := by
  have HE := Lib.hid hE
  have HM := Lib.hid hm
  clear hE hm
  go_enter Tryd.func4, Tryd.ntmps4
  go_wp2_with fail
  refine (new_any w).mono ?_
  rintro e w1 ⟨b, M, rfl, hbk, hlb, hlm, hb1⟩
  replace hb1 : Below w.heap.size w w1 := stepH (by (repeat' (first | with_reducible exact Below.refl _ _ | with_reducible assumption | with_reducible refine Below.drew ?_ | with_reducible refine below_drewN ?_ _ | with_reducible refine Below.setCell ?_ ?_ _ | with_reducible refine Below.alloc ?_ ?_ _ | omega | (simp; done) | (simp; omega)))) hb1
  have hw1 : Below w.heap.size w w1 := stepH (by (repeat' (first | with_reducible exact Below.refl _ _ | with_reducible assumption | with_reducible refine Below.drew ?_ | with_reducible refine below_drewN ?_ _ | with_reducible refine Below.setCell ?_ ?_ _ | with_reducible refine Below.alloc ?_ ?_ _ | omega | (simp; done) | (simp; omega)))) hb1
  have HB := Lib.hid hbk
  clear hbk
  have z1 := hw1.size
  clear hb1
  go_wp2_with fail
  have hwr : Below w.heap.size w (w1.alloc (.cells #[.string ⟨#[114]⟩, .string ⟨#[]⟩, .int .i64 0, .int .i64 9, .int .i64 9, .int .i64 0, .string ⟨#[97, 49]⟩, .int .i64 0, .int .i64 0, .int .i64 0, .slice none 0 0, .string ⟨#[]⟩, .int .i64 0, .int .i64 0, .int .i64 0] 43)) := by (repeat' (first | with_reducible exact Below.refl _ _ | with_reducible assumption | with_reducible refine Below.drew ?_ | with_reducible refine below_drewN ?_ _ | with_reducible refine Below.setCell ?_ ?_ _ | with_reducible refine Below.alloc ?_ ?_ _ | omega | (simp; done) | (simp; omega)))
  have R : Hid ((w1.alloc (.cells #[.string ⟨#[114]⟩, .string ⟨#[]⟩, .int .i64 0, .int .i64 9, .int .i64 9, .int .i64 0, .string ⟨#[97, 49]⟩, .int .i64 0, .int .i64 0, .int .i64 0, .slice none 0 0, .string ⟨#[]⟩, .int .i64 0, .int .i64 0, .int .i64 0] 43)).heap[w1.heap.size]? = some (.cells #[.string ⟨#[114]⟩, .string ⟨#[]⟩, .int .i64 0, .int .i64 9, .int .i64 9, .int .i64 0, .string ⟨#[97, 49]⟩, .int .i64 0, .int .i64 0, .int .i64 0, .slice none 0 0, .string ⟨#[]⟩, .int .i64 0, .int .i64 0, .int .i64 0] 43 (0, 0))) := Lib.hid (blk_new rfl)
  have HB := Lib.hid (HB.out.step (w' := w1.alloc (.cells #[.string ⟨#[114]⟩, .string ⟨#[]⟩, .int .i64 0, .int .i64 9, .int .i64 9, .int .i64 0, .string ⟨#[97, 49]⟩, .int .i64 0, .int .i64 0, .int .i64 0, .slice none 0 0, .string ⟨#[]⟩, .int .i64 0, .int .i64 0, .int .i64 0] 43)) (by (repeat' (first | with_reducible exact Below.refl _ _ | with_reducible assumption | with_reducible refine Below.drew ?_ | with_reducible refine below_drewN ?_ _ | with_reducible refine Below.setCell ?_ ?_ _ | with_reducible refine Below.alloc ?_ ?_ _ | omega | (simp; done) | (simp; omega)))))
  have zz : (w1.alloc (.cells #[.string ⟨#[114]⟩, .string ⟨#[]⟩, .int .i64 0, .int .i64 9, .int .i64 9, .int .i64 0, .string ⟨#[97, 49]⟩, .int .i64 0, .int .i64 0, .int .i64 0, .slice none 0 0, .string ⟨#[]⟩, .int .i64 0, .int .i64 0, .int .i64 0] 43)).heap.size = w1.heap.size + 1 := by simp
  generalize (w1.alloc (.cells #[.string ⟨#[114]⟩, .string ⟨#[]⟩, .int .i64 0, .int .i64 9, .int .i64 9, .int .i64 0, .string ⟨#[97, 49]⟩, .int .i64 0, .int .i64 0, .int .i64 0, .slice none 0 0, .string ⟨#[]⟩, .int .i64 0, .int .i64 0, .int .i64 0] 43)) = wx at *
  refine (num_any b2 px 5 _).mono ?_
  rintro e w2 ⟨rfl, hb2⟩
  replace hb2 : Below wx.heap.size wx w2 := stepH (by (repeat' (first | with_reducible exact Below.refl _ _ | with_reducible assumption | with_reducible refine Below.drew ?_ | with_reducible refine below_drewN ?_ _ | with_reducible refine Below.setCell ?_ ?_ _ | with_reducible refine Below.alloc ?_ ?_ _ | omega | (simp; done) | (simp; omega)))) hb2
  have hw2 : Below w.heap.size w w2 := stepH (by (repeat' (first | with_reducible exact Below.refl _ _ | with_reducible assumption | with_reducible refine Below.drew ?_ | with_reducible refine below_drewN ?_ _ | with_reducible refine Below.setCell ?_ ?_ _ | with_reducible refine Below.alloc ?_ ?_ _ | omega | (simp; done) | (simp; omega)))) hb2
  have HB := Lib.hid (HB.out.step hb2)
  have R := keepH hb2 R.out
  have z2 := hw2.size
  clear hb2
  go_wp2_with fail
  refine (register_new b M [] (numPv b2 px 5) none 0 E m _ HB.out (HE.out.below (by (repeat' (first | with_reducible exact Below.refl _ _ | with_reducible assumption | with_reducible refine Below.drew ?_ | with_reducible refine below_drewN ?_ _ | with_reducible refine Below.setCell ?_ ?_ _ | with_reducible refine Below.alloc ?_ ?_ _ | omega | (simp; done) | (simp; omega))))) (cell_at HM.out (by (repeat' (first | with_reducible exact Below.refl _ _ | with_reducible assumption | with_reducible refine Below.drew ?_ | with_reducible refine below_drewN ?_ _ | with_reducible refine Below.setCell ?_ ?_ _ | with_reducible refine Below.alloc ?_ ?_ _ | omega | (simp; done) | (simp; omega))))) (num_in _ _ _ (by decide)) (noneAt _ _ rfl) v_b2 (fun q hq => by simp at hq) (by decide) (by decide)).mono ?_
  rintro e w3 ⟨rfl, hbk, hb3⟩
  have hw3 : Below w.heap.size w w3 := only_below (by (repeat' (first | with_reducible exact Below.refl _ _ | with_reducible assumption | with_reducible refine Below.drew ?_ | with_reducible refine below_drewN ?_ _ | with_reducible refine Below.setCell ?_ ?_ _ | with_reducible refine Below.alloc ?_ ?_ _ | omega | (simp; done) | (simp; omega)))) hb3 hlm (by omega)
  have R := Lib.hid (heap_only R.out hb3 HB.out.isMap)
  have HB := Lib.hid hbk
  clear hbk
  have z3 := hw3.size
  clear hb3
  go_wp2_with fail
  refine (num_any a1 px 9 _).mono ?_
  rintro e w4 ⟨rfl, hb4⟩
  replace hb4 : Below w3.heap.size w3 w4 := stepH (by (repeat' (first | with_reducible exact Below.refl _ _ | with_reducible assumption | with_reducible refine Below.drew ?_ | with_reducible refine below_drewN ?_ _ | with_reducible refine Below.setCell ?_ ?_ _ | with_reducible refine Below.alloc ?_ ?_ _ | omega | (simp; done) | (simp; omega)))) hb4
  have hw4 : Below w.heap.size w w4 := stepH (by (repeat' (first | with_reducible exact Below.refl _ _ | with_reducible assumption | with_reducible refine Below.drew ?_ | with_reducible refine below_drewN ?_ _ | with_reducible refine Below.setCell ?_ ?_ _ | with_reducible refine Below.alloc ?_ ?_ _ | omega | (simp; done) | (simp; omega)))) hb4
  have HB := Lib.hid (HB.out.step hb4)
  have R := keepH hb4 R.out
  have z4 := hw4.size
  clear hb4
  go_wp2_with fail
  refine (register_new b M [numPv b2 px 5] (numPv a1 px 9) none 0 E m _ HB.out (HE.out.below (by (repeat' (first | with_reducible exact Below.refl _ _ | with_reducible assumption | with_reducible refine Below.drew ?_ | with_reducible refine below_drewN ?_ _ | with_reducible refine Below.setCell ?_ ?_ _ | with_reducible refine Below.alloc ?_ ?_ _ | omega | (simp; done) | (simp; omega))))) (cell_at HM.out (by (repeat' (first | with_reducible exact Below.refl _ _ | with_reducible assumption | with_reducible refine Below.drew ?_ | with_reducible refine below_drewN ?_ _ | with_reducible refine Below.setCell ?_ ?_ _ | with_reducible refine Below.alloc ?_ ?_ _ | omega | (simp; done) | (simp; omega))))) (num_in _ _ _ (by decide)) (noneAt _ _ rfl) v_a1 (fun q hq => by simp at hq; subst hq; exact ne_id (by decide)) (by decide) (by decide)).mono ?_
  rintro e w5 ⟨rfl, hbk, hb5⟩
  have hw5 : Below w.heap.size w w5 := only_below (by (repeat' (first | with_reducible exact Below.refl _ _ | with_reducible assumption | with_reducible refine Below.drew ?_ | with_reducible refine below_drewN ?_ _ | with_reducible refine Below.setCell ?_ ?_ _ | with_reducible refine Below.alloc ?_ ?_ _ | omega | (simp; done) | (simp; omega)))) hb5 hlm (by omega)
  have R := Lib.hid (heap_only R.out hb5 HB.out.isMap)
  have HB := Lib.hid hbk
  clear hbk
  have z5 := hw5.size
  clear hb5
  have cR := cellH R
  go_wp2_with fail
  refine (register_new b M [numPv b2 px 5, numPv a1 px 9] (rPv) none 0 E m _ HB.out (HE.out.below (by (repeat' (first | with_reducible exact Below.refl _ _ | with_reducible assumption | with_reducible refine Below.drew ?_ | with_reducible refine below_drewN ?_ _ | with_reducible refine Below.setCell ?_ ?_ _ | with_reducible refine Below.alloc ?_ ?_ _ | omega | (simp; done) | (simp; omega))))) (cell_at HM.out (by (repeat' (first | with_reducible exact Below.refl _ _ | with_reducible assumption | with_reducible refine Below.drew ?_ | with_reducible refine below_drewN ?_ _ | with_reducible refine Below.setCell ?_ ?_ _ | with_reducible refine Below.alloc ?_ ?_ _ | omega | (simp; done) | (simp; omega))))) r_in (noneAt _ _ rfl) v_r (fun q hq => by simp at hq; rcases hq with rfl | rfl <;> exact ne_id (by decide)) (by decide) (by decide)).mono ?_
  rintro e w6 ⟨rfl, hbk, hb6⟩
  have hw6 : Below w.heap.size w w6 := only_below (by (repeat' (first | with_reducible exact Below.refl _ _ | with_reducible assumption | with_reducible refine Below.drew ?_ | with_reducible refine below_drewN ?_ _ | with_reducible refine Below.setCell ?_ ?_ _ | with_reducible refine Below.alloc ?_ ?_ _ | omega | (simp; done) | (simp; omega)))) hb6 hlm (by omega)
  have R := Lib.hid (heap_only R.out hb6 HB.out.isMap)
  have HB := Lib.hid hbk
  clear hbk
  have z6 := hw6.size
  clear hb6
  clear cR
  go_wp2_with fail
  refine (num_any a1 ⟨#[112, 46, 121]⟩ 1 _).mono ?_
  rintro e w7 ⟨rfl, hb7⟩
  replace hb7 : Below w6.heap.size w6 w7 := stepH (by (repeat' (first | with_reducible exact Below.refl _ _ | with_reducible assumption | with_reducible refine Below.drew ?_ | with_reducible refine below_drewN ?_ _ | with_reducible refine Below.setCell ?_ ?_ _ | with_reducible refine Below.alloc ?_ ?_ _ | omega | (simp; done) | (simp; omega)))) hb7
  have hw7 : Below w.heap.size w w7 := stepH (by (repeat' (first | with_reducible exact Below.refl _ _ | with_reducible assumption | with_reducible refine Below.drew ?_ | with_reducible refine below_drewN ?_ _ | with_reducible refine Below.setCell ?_ ?_ _ | with_reducible refine Below.alloc ?_ ?_ _ | omega | (simp; done) | (simp; omega)))) hb7
  have HB := Lib.hid (HB.out.step hb7)
  have R := keepH hb7 R.out
  have z7 := hw7.size
  clear hb7
  go_wp2_with fail
  refine (register_twice b M exS (numPv a1 ⟨#[112, 46, 121]⟩ 1) (numPv a1 px 9) none 0 E m _ HB.out (HE.out.below (by (repeat' (first | with_reducible exact Below.refl _ _ | with_reducible assumption | with_reducible refine Below.drew ?_ | with_reducible refine below_drewN ?_ _ | with_reducible refine Below.setCell ?_ ?_ _ | with_reducible refine Below.alloc ?_ ?_ _ | omega | (simp; done) | (simp; omega))))) (cell_at HM.out (by (repeat' (first | with_reducible exact Below.refl _ _ | with_reducible assumption | with_reducible refine Below.drew ?_ | with_reducible refine below_drewN ?_ _ | with_reducible refine Below.setCell ?_ ?_ _ | with_reducible refine Below.alloc ?_ ?_ _ | omega | (simp; done) | (simp; omega))))) (num_in _ _ _ (by decide)) (noneAt _ _ rfl) v_a1y (by unfold exS; simp) rfl).mono ?_
  rintro e w8 ⟨rfl, hb8⟩
  replace hb8 : Below w7.heap.size w7 w8 := stepH (by (repeat' (first | with_reducible exact Below.refl _ _ | with_reducible assumption | with_reducible refine Below.drew ?_ | with_reducible refine below_drewN ?_ _ | with_reducible refine Below.setCell ?_ ?_ _ | with_reducible refine Below.alloc ?_ ?_ _ | omega | (simp; done) | (simp; omega)))) hb8
  have hw8 : Below w.heap.size w w8 := stepH (by (repeat' (first | with_reducible exact Below.refl _ _ | with_reducible assumption | with_reducible refine Below.drew ?_ | with_reducible refine below_drewN ?_ _ | with_reducible refine Below.setCell ?_ ?_ _ | with_reducible refine Below.alloc ?_ ?_ _ | omega | (simp; done) | (simp; omega)))) hb8
  have HB := Lib.hid (HB.out.step hb8)
  have R := keepH hb8 R.out
  have z8 := hw8.size
  clear hb8
  clear R
  go_wp2_with fail
  refine (keys_any b M false exS _ HB.out (by decide)).mono ?_
  rintro e w9 ⟨⟨A1, c1, rfl, hk1⟩, hb9⟩
  replace hb9 : Below w8.heap.size w8 w9 := stepH (by (repeat' (first | with_reducible exact Below.refl _ _ | with_reducible assumption | with_reducible refine Below.drew ?_ | with_reducible refine below_drewN ?_ _ | with_reducible refine Below.setCell ?_ ?_ _ | with_reducible refine Below.alloc ?_ ?_ _ | omega | (simp; done) | (simp; omega)))) hb9
  have hw9 : Below w.heap.size w w9 := stepH (by (repeat' (first | with_reducible exact Below.refl _ _ | with_reducible assumption | with_reducible refine Below.drew ?_ | with_reducible refine below_drewN ?_ _ | with_reducible refine Below.setCell ?_ ?_ _ | with_reducible refine Below.alloc ?_ ?_ _ | omega | (simp; done) | (simp; omega)))) hb9
  have HB := Lib.hid (HB.out.step hb9)
  rw [ex_keys] at hk1
  have HK := Lib.hid hk1
  clear hk1
  have z9 := hw9.size
  clear hb9
  rw [ex_keys]
  go_wp2_with fail
  refine (sameTexts_any [px] A1 (some ⟨w9.heap.size, 0, none⟩) c1 1 _ ((HK.out.below (by (repeat' (first | with_reducible exact Below.refl _ _ | with_reducible assumption | with_reducible refine Below.drew ?_ | with_reducible refine below_drewN ?_ _ | with_reducible refine Below.setCell ?_ ?_ _ | with_reducible refine Below.alloc ?_ ?_ _ | omega | (simp; done) | (simp; omega)))) (Nat.le_refl _)).more (by simp)) (fun k x hx => by obtain ⟨rfl, rfl⟩ : k = 0 ∧ x = px := (by rcases k with _ | k <;> simp at hx; exact ⟨rfl, hx.symm⟩); exact ⟨w9.heap.size, 0, rfl, by simp, fun j u hj => by rcases j with _ | j <;> simp [encS] at hj; subst hj; exact cellH (Lib.hid (blk_new (w := w9) rfl)) 0⟩) (by decide)).mono ?_
  rintro e w10 ⟨rfl, hb10⟩
  replace hb10 : Below w9.heap.size w9 w10 := stepH (by (repeat' (first | with_reducible exact Below.refl _ _ | with_reducible assumption | with_reducible refine Below.drew ?_ | with_reducible refine below_drewN ?_ _ | with_reducible refine Below.setCell ?_ ?_ _ | with_reducible refine Below.alloc ?_ ?_ _ | omega | (simp; done) | (simp; omega)))) hb10
  have hw10 : Below w.heap.size w w10 := stepH (by (repeat' (first | with_reducible exact Below.refl _ _ | with_reducible assumption | with_reducible refine Below.drew ?_ | with_reducible refine below_drewN ?_ _ | with_reducible refine Below.setCell ?_ ?_ _ | with_reducible refine Below.alloc ?_ ?_ _ | omega | (simp; done) | (simp; omega)))) hb10
  have HB := Lib.hid (HB.out.step hb10)
  have z10 := hw10.size
  clear hb10
  go_wp2_with fail
  refine (of_any b M false exS px _ HB.out (by decide)).mono ?_
  rintro e w11 ⟨⟨A2, c2, rfl, hk2⟩, hb11⟩
  replace hb11 : Below w10.heap.size w10 w11 := stepH (by (repeat' (first | with_reducible exact Below.refl _ _ | with_reducible assumption | with_reducible refine Below.drew ?_ | with_reducible refine below_drewN ?_ _ | with_reducible refine Below.setCell ?_ ?_ _ | with_reducible refine Below.alloc ?_ ?_ _ | omega | (simp; done) | (simp; omega)))) hb11
  have hw11 : Below w.heap.size w w11 := stepH (by (repeat' (first | with_reducible exact Below.refl _ _ | with_reducible assumption | with_reducible refine Below.drew ?_ | with_reducible refine below_drewN ?_ _ | with_reducible refine Below.setCell ?_ ?_ _ | with_reducible refine Below.alloc ?_ ?_ _ | omega | (simp; done) | (simp; omega)))) hb11
  have HB := Lib.hid (HB.out.step hb11)
  rw [ex_of] at hk2
  have HO := Lib.hid hk2
  clear hk2
  have z11 := hw11.size
  clear hb11
  rw [ex_of]
  go_wp2_with fail
  refine (known_any b M false exS 7 _ HB.out (by decide)).mono ?_
  rintro e w12 ⟨⟨kb, kM, rfl, hkb, _, _⟩, hb12⟩
  replace hb12 : Below w11.heap.size w11 w12 := stepH (by (repeat' (first | with_reducible exact Below.refl _ _ | with_reducible assumption | with_reducible refine Below.drew ?_ | with_reducible refine below_drewN ?_ _ | with_reducible refine Below.setCell ?_ ?_ _ | with_reducible refine Below.alloc ?_ ?_ _ | omega | (simp; done) | (simp; omega)))) hb12
  have hw12 : Below w.heap.size w w12 := stepH (by (repeat' (first | with_reducible exact Below.refl _ _ | with_reducible assumption | with_reducible refine Below.drew ?_ | with_reducible refine below_drewN ?_ _ | with_reducible refine Below.setCell ?_ ?_ _ | with_reducible refine Below.alloc ?_ ?_ _ | omega | (simp; done) | (simp; omega)))) hb12
  have HB := Lib.hid (HB.out.step hb12)
  have HO := Lib.hid (HO.out.step hb12)
  rw [ex_known] at hkb
  have HKB := Lib.hid hkb
  clear hkb
  have z12 := hw12.size
  clear hb12
  obtain ⟨g, off, F, cF, rfl, hg, ca, _⟩ := HO.out 0 _ rfl
  obtain ⟨g2, off2, F2, cF2, hgg, _, ca2, _⟩ := HO.out 1 _ rfl
  injection hgg with hgg
  injection hgg with e1 e2
  subst e1 e2
  have i0 : w12.cell? ⟨g, off, none⟩ = some (.string ⟨#[97, 49]⟩) := by have := ca 0 _ rfl; simpa [numPv, a1] using this
  have i1 : w12.cell? ⟨g, off + 15, none⟩ = some (.string ⟨#[98, 50]⟩) := by have := ca2 0 _ rfl; simpa [numPv, b2] using this
  clear ca ca2
  go_wp2_with fail
  refine (repeals_any b M false exS a1 _ HB.out (by decide)).mono ?_
  rintro e w13 ⟨⟨A3, c3, rfl, hk3⟩, hb13⟩
  replace hb13 : Below w12.heap.size w12 w13 := stepH (by (repeat' (first | with_reducible exact Below.refl _ _ | with_reducible assumption | with_reducible refine Below.drew ?_ | with_reducible refine below_drewN ?_ _ | with_reducible refine Below.setCell ?_ ?_ _ | with_reducible refine Below.alloc ?_ ?_ _ | omega | (simp; done) | (simp; omega)))) hb13
  have hw13 : Below w.heap.size w w13 := stepH (by (repeat' (first | with_reducible exact Below.refl _ _ | with_reducible assumption | with_reducible refine Below.drew ?_ | with_reducible refine below_drewN ?_ _ | with_reducible refine Below.setCell ?_ ?_ _ | with_reducible refine Below.alloc ?_ ?_ _ | omega | (simp; done) | (simp; omega)))) hb13
  have HB := Lib.hid (HB.out.step hb13)
  have HO := Lib.hid (HO.out.step hb13)
  have HKB := Lib.hid (HKB.out.step hb13)
  rw [ex_rep] at hk3
  have HRP := Lib.hid hk3
  clear hk3 i0 i1
  have z13 := hw13.size
  clear hb13
  rw [ex_rep]
  go_wp2_with fail
  refine (num_any ⟨#[113]⟩ ⟨#[112, 46, 113]⟩ 1 _).mono ?_
  rintro e w14 ⟨rfl, hb14⟩
  replace hb14 : Below w13.heap.size w13 w14 := stepH (by (repeat' (first | with_reducible exact Below.refl _ _ | with_reducible assumption | with_reducible refine Below.drew ?_ | with_reducible refine below_drewN ?_ _ | with_reducible refine Below.setCell ?_ ?_ _ | with_reducible refine Below.alloc ?_ ?_ _ | omega | (simp; done) | (simp; omega)))) hb14
  have hw14 : Below w.heap.size w w14 := stepH (by (repeat' (first | with_reducible exact Below.refl _ _ | with_reducible assumption | with_reducible refine Below.drew ?_ | with_reducible refine below_drewN ?_ _ | with_reducible refine Below.setCell ?_ ?_ _ | with_reducible refine Below.alloc ?_ ?_ _ | omega | (simp; done) | (simp; omega)))) hb14
  have HB := Lib.hid (HB.out.step hb14)
  have HO := Lib.hid (HO.out.step hb14)
  have HKB := Lib.hid (HKB.out.step hb14)
  have HRP := Lib.hid (HRP.out.step hb14)
  have z14 := hw14.size
  clear hb14
  go_wp2_with fail
  refine (register_closed kb kM [numPv b2 px 5] (numPv ⟨#[113]⟩ ⟨#[112, 46, 113]⟩ 1) none 0 E _ HKB.out (HE.out.below (by (repeat' (first | with_reducible exact Below.refl _ _ | with_reducible assumption | with_reducible refine Below.drew ?_ | with_reducible refine below_drewN ?_ _ | with_reducible refine Below.setCell ?_ ?_ _ | with_reducible refine Below.alloc ?_ ?_ _ | omega | (simp; done) | (simp; omega)))))).mono ?_
  rintro e w15 ⟨rfl, hb15⟩
  replace hb15 : Below w14.heap.size w14 w15 := stepH (by (repeat' (first | with_reducible exact Below.refl _ _ | with_reducible assumption | with_reducible refine Below.drew ?_ | with_reducible refine below_drewN ?_ _ | with_reducible refine Below.setCell ?_ ?_ _ | with_reducible refine Below.alloc ?_ ?_ _ | omega | (simp; done) | (simp; omega)))) hb15
  have hw15 : Below w.heap.size w w15 := stepH (by (repeat' (first | with_reducible exact Below.refl _ _ | with_reducible assumption | with_reducible refine Below.drew ?_ | with_reducible refine below_drewN ?_ _ | with_reducible refine Below.setCell ?_ ?_ _ | with_reducible refine Below.alloc ?_ ?_ _ | omega | (simp; done) | (simp; omega)))) hb15
  have HB := Lib.hid (HB.out.step hb15)
  have HO := Lib.hid (HO.out.step hb15)
  have HKB := Lib.hid (HKB.out.step hb15)
  have HRP := Lib.hid (HRP.out.step hb15)
  have z15 := hw15.size
  clear hb15
  have cT := (HE.out.below hw15).cell 0 (by decide)
  have cC := (HE.out.below hw15).cell 1 (by decide)
  have qT := fun W => eql_err (E 0) W
  have qC := fun W => eql_err (E 1) W
  rw [errB_some, errB_some]
  go_wp2_with fail
  refine (len_any b M false exS _ HB.out).mono ?_
  rintro e w16 ⟨rfl, hb16⟩
  replace hb16 : Below w15.heap.size w15 w16 := stepH (by (repeat' (first | with_reducible exact Below.refl _ _ | with_reducible assumption | with_reducible refine Below.drew ?_ | with_reducible refine below_drewN ?_ _ | with_reducible refine Below.setCell ?_ ?_ _ | with_reducible refine Below.alloc ?_ ?_ _ | omega | (simp; done) | (simp; omega)))) hb16
  have hw16 : Below w.heap.size w w16 := stepH (by (repeat' (first | with_reducible exact Below.refl _ _ | with_reducible assumption | with_reducible refine Below.drew ?_ | with_reducible refine below_drewN ?_ _ | with_reducible refine Below.setCell ?_ ?_ _ | with_reducible refine Below.alloc ?_ ?_ _ | omega | (simp; done) | (simp; omega)))) hb16
  have HB := Lib.hid (HB.out.step hb16)
  have HO := Lib.hid (HO.out.step hb16)
  have HKB := Lib.hid (HKB.out.step hb16)
  have HRP := Lib.hid (HRP.out.step hb16)
  have z16 := hw16.size
  clear hb16
  rw [show (exS.length : Int) = 3 from rfl]
  go_wp2_with fail
  refine (len_any kb kM true [numPv b2 px 5] _ HKB.out).mono ?_
  rintro e w17 ⟨rfl, hb17⟩
  replace hb17 : Below w16.heap.size w16 w17 := stepH (by (repeat' (first | with_reducible exact Below.refl _ _ | with_reducible assumption | with_reducible refine Below.drew ?_ | with_reducible refine below_drewN ?_ _ | with_reducible refine Below.setCell ?_ ?_ _ | with_reducible refine Below.alloc ?_ ?_ _ | omega | (simp; done) | (simp; omega)))) hb17
  have hw17 : Below w.heap.size w w17 := stepH (by (repeat' (first | with_reducible exact Below.refl _ _ | with_reducible assumption | with_reducible refine Below.drew ?_ | with_reducible refine below_drewN ?_ _ | with_reducible refine Below.setCell ?_ ?_ _ | with_reducible refine Below.alloc ?_ ?_ _ | omega | (simp; done) | (simp; omega)))) hb17
  have HB := Lib.hid (HB.out.step hb17)
  have HO := Lib.hid (HO.out.step hb17)
  have HKB := Lib.hid (HKB.out.step hb17)
  have HRP := Lib.hid (HRP.out.step hb17)
  have z17 := hw17.size
  clear hb17
  rw [show (([numPv b2 px 5] : List Pv).length : Int) = 1 from rfl]
  clear cT cC
  have cC := (HE.out.below hw17).cell 1 (by decide)
  obtain ⟨g3, off3, F3, cF3, rfl, hg3, ca3, _⟩ := HRP.out 0 _ rfl
  have i3 : w17.cell? ⟨g3, off3, none⟩ = some (.string ⟨#[114]⟩) := by have := ca3 0 _ rfl; simpa [rPv] using this
  clear ca3
  go_wp2_with fail
  refine (close_any b M false exS _ HB.out).mono ?_
  rintro e wc ⟨rfl, hbc, hoc⟩
  have hwc : Below w.heap.size w wc := hw17.trans (hoc.below (by omega) (fun k hk => by simp at hk; omega))
  have zc := hwc.size
  go_wp2_with fail
  refine (close_any b M true exS _ hbc).mono ?_
  rintro e wd ⟨rfl, hbd, hod⟩
  have hwd : Below w.heap.size w wd := hwc.trans (hod.below (by omega) (fun k hk => by simp at hk; omega))
  go_wp2_with fail
  go_ret
  exact ⟨rfl, hwd⟩
end Go.Proofs.YtngckppnaflciaaDoor
