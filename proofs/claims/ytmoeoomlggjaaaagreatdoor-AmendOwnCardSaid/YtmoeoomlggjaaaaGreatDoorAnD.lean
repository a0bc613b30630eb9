/- tithelaw25.first: the walk. -/
import Derived.Test.YtmoeoomlggjaaaaGreatDoorAnC
namespace Go.Proofs.YtmoeoomlggjaaaaGreatDoor
open Go.RowKit Go.Maps

theorem item_e (s : ByteArray) (n : Int) (w : World) : Calls Tryz.prog 22 #[.string s, .int .i64 n] w fun e w' => e = .returned (.agg #[.string s, .int .i64 n, .int .i64 1]) ∧ Below w.heap.size w w' := item_any s n w
theorem set_e (s : ByteArray) (n : Int) (w : World) : Calls Tryz.prog 20 #[.string s, .int .i64 n] w fun e w' => e = .returned (.agg #[.string s, .bool false, .int .i64 n, .int .i64 1]) ∧ Below w.heap.size w w' := set_any s n w
theorem clear_e (s : ByteArray) (w : World) : Calls Tryz.prog 32 #[.string s] w fun e w' => e = .returned (.agg #[.string s, .bool true, .int .i64 0, .int .i64 0]) ∧ Below w.heap.size w w' := clear_any s w
theorem ex_inC : ∀ c ∈ exS, InC c := by intro c hc; simp only [exS, List.mem_cons, List.not_mem_nil, or_false] at hc; rcases hc with rfl | rfl | rfl <;> (unfold InC In8; decide)
theorem ex_inX : ∀ c ∈ exX, InI c := by intro c hc; simp only [exX, List.mem_cons, List.not_mem_nil, or_false] at hc; rcases hc with rfl | rfl <;> (unfold InI In8; decide)
theorem ex_inT : ∀ c ∈ exT, InI c := by intro c hc; simp only [exT, List.mem_cons, List.not_mem_nil, or_false] at hc; rcases hc with rfl | rfl <;> (unfold InI In8; decide)
theorem ex_inTw : ∀ c ∈ exTw, InI c := by intro c hc; simp only [exTw, List.mem_cons, List.not_mem_nil, or_false] at hc; rcases hc with rfl | rfl <;> (unfold InI In8; decide)
theorem ex_okS : okA (makeF exSC) := makeF_ok (fun c hc => ex_may c (by simp only [exSC, exS, List.mem_cons, List.not_mem_nil, or_false] at *; rcases hc with rfl | rfl <;> simp))
def exP (c : Ch) : ByteArray := ⟨#[]⟩ ++ ⟨#[UInt8.ofNat (48 + c.n.toNat)]⟩
def exTx : List ByteArray := [⟨#[115, 101, 116, 32, 105, 110, 46, 98, 32, 53]⟩, ⟨#[115, 101, 116, 32, 105, 110, 46, 99, 32, 55]⟩]
theorem ex_tx2 : exSC.map (fun c => lineS (exP c) c) = exTx := ex_tx
theorem ex_ps : ∀ c ∈ exSC, c.name.size ≤ 64 ∧ (exP c).size ≤ 100 := by decide
theorem ex_pp : ∀ c ∈ exSC, c.clear = false → ∀ W : World, Calls Tryz.prog 73 #[.agg #[.int .i64 c.n, .int .i64 c.d]] W fun e w' => e = .returned (.string (exP c)) ∧ Below W.heap.size W w' := by
  intro c hc _ W
  simp only [exSC, List.mem_cons, List.not_mem_nil, or_false] at hc
  rcases hc with rfl | rfl
  · exact print_small 5 _ (by decide) W rfl
  · exact print_small 7 _ (by decide) W rfl

set_option maxRecDepth 100000 in
set_option maxHeartbeats 16000000 in
theorem first25_any (E : Nat → Addr) (m : Int) (w : World) (hE : Env LA E w) (hm : w.cell? ⟨4, 0, none⟩ = some (.int .i64 m)) :
    Calls Tryz.prog 7 #[] w fun e w' => e = .returned (.bool true) ∧ Below w.heap.size w w' := by
  have HE := Lib.hid hE
  have HM := Lib.hid hm
  clear hE hm
  go_enter Tryz.func7, Tryz.ntmps7
  go_wp2_with fail
  refine (item_e ⟨#[105, 110, 46, 97]⟩ 1 _).mono ?_
  rintro e w1 ⟨rfl, hb1⟩
  replace hb1 : Below w.heap.size w w1 := stepH (by (repeat' (first | with_reducible exact Below.refl _ _ | with_reducible assumption | with_reducible refine Below.drew ?_ | with_reducible refine below_drewN ?_ _ | with_reducible refine Below.setCell ?_ ?_ _ | with_reducible refine Below.alloc ?_ ?_ _ | omega | (simp; done) | (simp; omega)))) hb1
  have hw1 : Below w.heap.size w w1 := stepH (Below.refl _ _) hb1
  have z1 := hw1.size
  clear hb1
  go_wp2_with fail
  refine (item_e ⟨#[105, 110, 46, 98]⟩ 2 _).mono ?_
  rintro e w2 ⟨rfl, hb2⟩
  replace hb2 : Below w1.heap.size w1 w2 := stepH (by (repeat' (first | with_reducible exact Below.refl _ _ | with_reducible assumption | with_reducible refine Below.drew ?_ | with_reducible refine below_drewN ?_ _ | with_reducible refine Below.setCell ?_ ?_ _ | with_reducible refine Below.alloc ?_ ?_ _ | omega | (simp; done) | (simp; omega)))) hb2
  have hw2 : Below w.heap.size w w2 := stepH hw1 hb2
  have z2 := hw2.size
  clear hb2
  go_wp2_with fail
  obtain ⟨w3, hu3⟩ : ∃ u, w2.alloc (.cells #[.string ⟨#[105, 110, 46, 97]⟩, .int .i64 1, .int .i64 1, .string ⟨#[105, 110, 46, 98]⟩, .int .i64 2, .int .i64 1] 53) = u := ⟨_, rfl⟩
  have hb3 : Below w2.heap.size w2 w3 := by rw [← hu3]; (repeat' (first | with_reducible exact Below.refl _ _ | with_reducible assumption | with_reducible refine Below.drew ?_ | with_reducible refine below_drewN ?_ _ | with_reducible refine Below.setCell ?_ ?_ _ | with_reducible refine Below.alloc ?_ ?_ _ | omega | (simp; done) | (simp; omega)))
  have RX : Hid (RowAt itL 3 w3 w3.heap.size (some ⟨w2.heap.size, 0, none⟩) exX) := Lib.hid (row_blk exX itL_len (show w3.heap[w2.heap.size]? = some (.cells #[.string ⟨#[105, 110, 46, 97]⟩, .int .i64 1, .int .i64 1, .string ⟨#[105, 110, 46, 98]⟩, .int .i64 2, .int .i64 1] 53 (0, 0)) by rw [← hu3]; exact blk_new rfl) rfl)
  rw [hu3]
  have hw3 : Below w.heap.size w w3 := stepH hw2 hb3
  have z3 := hw3.size
  clear hb3 hu3
  go_wp2_with fail
  refine (set_e ⟨#[105, 110, 46, 98]⟩ 5 _).mono ?_
  rintro e w4 ⟨rfl, hb4⟩
  replace hb4 : Below w3.heap.size w3 w4 := stepH (by (repeat' (first | with_reducible exact Below.refl _ _ | with_reducible assumption | with_reducible refine Below.drew ?_ | with_reducible refine below_drewN ?_ _ | with_reducible refine Below.setCell ?_ ?_ _ | with_reducible refine Below.alloc ?_ ?_ _ | omega | (simp; done) | (simp; omega)))) hb4
  have hw4 : Below w.heap.size w w4 := stepH hw3 hb4
  have RX := Lib.hid (row_step RX.out hb4)
  have z4 := hw4.size
  clear hb4
  go_wp2_with fail
  refine (clear_e ⟨#[105, 110, 46, 99]⟩ _).mono ?_
  rintro e w5 ⟨rfl, hb5⟩
  replace hb5 : Below w4.heap.size w4 w5 := stepH (by (repeat' (first | with_reducible exact Below.refl _ _ | with_reducible assumption | with_reducible refine Below.drew ?_ | with_reducible refine below_drewN ?_ _ | with_reducible refine Below.setCell ?_ ?_ _ | with_reducible refine Below.alloc ?_ ?_ _ | omega | (simp; done) | (simp; omega)))) hb5
  have hw5 : Below w.heap.size w w5 := stepH hw4 hb5
  have RX := Lib.hid (row_step RX.out hb5)
  have z5 := hw5.size
  clear hb5
  go_wp2_with fail
  refine (set_e ⟨#[105, 110, 46, 99]⟩ 7 _).mono ?_
  rintro e w6 ⟨rfl, hb6⟩
  replace hb6 : Below w5.heap.size w5 w6 := stepH (by (repeat' (first | with_reducible exact Below.refl _ _ | with_reducible assumption | with_reducible refine Below.drew ?_ | with_reducible refine below_drewN ?_ _ | with_reducible refine Below.setCell ?_ ?_ _ | with_reducible refine Below.alloc ?_ ?_ _ | omega | (simp; done) | (simp; omega)))) hb6
  have hw6 : Below w.heap.size w w6 := stepH hw5 hb6
  have RX := Lib.hid (row_step RX.out hb6)
  have z6 := hw6.size
  clear hb6
  go_wp2_with fail
  obtain ⟨w7, hu7⟩ : ∃ u, w6.alloc (.cells #[.string ⟨#[105, 110, 46, 98]⟩, .bool false, .int .i64 5, .int .i64 1, .string ⟨#[105, 110, 46, 99]⟩, .bool true, .int .i64 0, .int .i64 0, .string ⟨#[105, 110, 46, 99]⟩, .bool false, .int .i64 7, .int .i64 1] 41) = u := ⟨_, rfl⟩
  have hb7 : Below w6.heap.size w6 w7 := by rw [← hu7]; (repeat' (first | with_reducible exact Below.refl _ _ | with_reducible assumption | with_reducible refine Below.drew ?_ | with_reducible refine below_drewN ?_ _ | with_reducible refine Below.setCell ?_ ?_ _ | with_reducible refine Below.alloc ?_ ?_ _ | omega | (simp; done) | (simp; omega)))
  have RS : Hid (RowAt chL 4 w7 w7.heap.size (some ⟨w6.heap.size, 0, none⟩) exS) := Lib.hid (row_blk exS chL_len (show w7.heap[w6.heap.size]? = some (.cells #[.string ⟨#[105, 110, 46, 98]⟩, .bool false, .int .i64 5, .int .i64 1, .string ⟨#[105, 110, 46, 99]⟩, .bool true, .int .i64 0, .int .i64 0, .string ⟨#[105, 110, 46, 99]⟩, .bool false, .int .i64 7, .int .i64 1] 41 (0, 0)) by rw [← hu7]; exact blk_new rfl) rfl)
  rw [hu7]
  have hw7 : Below w.heap.size w w7 := stepH hw6 hb7
  have RX := Lib.hid (row_step RX.out hb7)
  have z7 := hw7.size
  clear hb7 hu7
  refine (make_any exS (some ⟨w6.heap.size, 0, none⟩) 3 E m _ RS.out (by decide) ex_inC (HE.out.below hw7) (cell_at HM.out hw7)).mono ?_
  rintro e w8 ⟨hmk, hb8⟩
  replace hb8 : Below w7.heap.size w7 w8 := stepH (by (repeat' (first | with_reducible exact Below.refl _ _ | with_reducible assumption | with_reducible refine Below.drew ?_ | with_reducible refine below_drewN ?_ _ | with_reducible refine Below.setCell ?_ ?_ _ | with_reducible refine Below.alloc ?_ ?_ _ | omega | (simp; done) | (simp; omega)))) hb8
  have hw8 : Below w.heap.size w w8 := stepH hw7 hb8
  have RX := Lib.hid (row_step RX.out hb8)
  have RS := Lib.hid (row_step RS.out hb8)
  have z8 := hw8.size
  clear hb8
  clear RS
  rcases hmk with ⟨_, s, Ms, Ns, rfl, hs, hsn, _, _⟩ | ⟨⟨c, hc, hc2⟩, _⟩
  case inr => exact absurd (ex_may c hc) hc2
  rw [ex_s] at hs
  have AS := Lib.hid hs
  have hsn3 : Ns ≤ 3 := hsn
  clear hs hsn
  go_wp2_with fail
  refine (none_any _).mono ?_
  rintro e w9 ⟨o, Mo, rfl, ho, _, _, hb9⟩
  replace hb9 : Below w8.heap.size w8 w9 := stepH (by (repeat' (first | with_reducible exact Below.refl _ _ | with_reducible assumption | with_reducible refine Below.drew ?_ | with_reducible refine below_drewN ?_ _ | with_reducible refine Below.setCell ?_ ?_ _ | with_reducible refine Below.alloc ?_ ?_ _ | omega | (simp; done) | (simp; omega)))) hb9
  have hw9 : Below w.heap.size w w9 := stepH hw8 hb9
  have RX := Lib.hid (row_step RX.out hb9)
  have AS := Lib.hid (AS.out.step hb9)
  have z9 := hw9.size
  clear hb9
  have AO := Lib.hid ho
  clear ho
  go_wp2_with fail
  refine (apply_any s Ms Ns (makeF exSC) exX (some ⟨w2.heap.size, 0, none⟩) 2 E m _ AS.out (by omega) RX.out ex_inX (HE.out.below hw9) (cell_at HM.out hw9) (fun h => by cases h) ex_okS).mono ?_
  rintro e w10 ⟨hap, hb10⟩
  replace hb10 : Below w9.heap.size w9 w10 := stepH (by (repeat' (first | with_reducible exact Below.refl _ _ | with_reducible assumption | with_reducible refine Below.drew ?_ | with_reducible refine below_drewN ?_ _ | with_reducible refine Below.setCell ?_ ?_ _ | with_reducible refine Below.alloc ?_ ?_ _ | omega | (simp; done) | (simp; omega)))) hb10
  have hw10 : Below w.heap.size w w10 := stepH hw9 hb10
  have RX := Lib.hid (row_step RX.out hb10)
  have AS := Lib.hid (AS.out.step hb10)
  have AO := Lib.hid (AO.out.step hb10)
  have z10 := hw10.size
  clear hb10
  rcases hap with ⟨x, hx, _⟩ | ⟨_, ⟨y, hy, hap⟩⟩
  case inl => rw [ex_fx] at hx; cases hx
  rw [ex_y] at hy
  obtain rfl := hy.unique ex_yc
  rcases hap with ⟨_, v, rfl, hv⟩ | ⟨h6, _⟩
  case inr => exact absurd h6 (by decide)
  obtain ⟨AY, cY, rfl, hry, _, _⟩ := own_line (fun x _ => itL_len x) hv
  have RY := Lib.hid hry
  clear hv hry hy
  rw [show exY.length = 3 from rfl]
  go_wp2_with fail
  refine (item_e ⟨#[105, 110, 46, 98]⟩ 2 _).mono ?_
  rintro e w11 ⟨rfl, hb11⟩
  replace hb11 : Below w10.heap.size w10 w11 := stepH (by (repeat' (first | with_reducible exact Below.refl _ _ | with_reducible assumption | with_reducible refine Below.drew ?_ | with_reducible refine below_drewN ?_ _ | with_reducible refine Below.setCell ?_ ?_ _ | with_reducible refine Below.alloc ?_ ?_ _ | omega | (simp; done) | (simp; omega)))) hb11
  have hw11 : Below w.heap.size w w11 := stepH hw10 hb11
  have RX := Lib.hid (row_step RX.out hb11)
  have AS := Lib.hid (AS.out.step hb11)
  have AO := Lib.hid (AO.out.step hb11)
  have RY := Lib.hid (row_step RY.out hb11)
  have z11 := hw11.size
  clear hb11
  go_wp2_with fail
  refine (item_e ⟨#[105, 110, 46, 100]⟩ 4 _).mono ?_
  rintro e w12 ⟨rfl, hb12⟩
  replace hb12 : Below w11.heap.size w11 w12 := stepH (by (repeat' (first | with_reducible exact Below.refl _ _ | with_reducible assumption | with_reducible refine Below.drew ?_ | with_reducible refine below_drewN ?_ _ | with_reducible refine Below.setCell ?_ ?_ _ | with_reducible refine Below.alloc ?_ ?_ _ | omega | (simp; done) | (simp; omega)))) hb12
  have hw12 : Below w.heap.size w w12 := stepH hw11 hb12
  have RX := Lib.hid (row_step RX.out hb12)
  have AS := Lib.hid (AS.out.step hb12)
  have AO := Lib.hid (AO.out.step hb12)
  have RY := Lib.hid (row_step RY.out hb12)
  have z12 := hw12.size
  clear hb12
  go_wp2_with fail
  obtain ⟨w13, hu13⟩ : ∃ u, w12.alloc (.cells #[.string ⟨#[105, 110, 46, 98]⟩, .int .i64 2, .int .i64 1, .string ⟨#[105, 110, 46, 100]⟩, .int .i64 4, .int .i64 1] 53) = u := ⟨_, rfl⟩
  have hb13 : Below w12.heap.size w12 w13 := by rw [← hu13]; (repeat' (first | with_reducible exact Below.refl _ _ | with_reducible assumption | with_reducible refine Below.drew ?_ | with_reducible refine below_drewN ?_ _ | with_reducible refine Below.setCell ?_ ?_ _ | with_reducible refine Below.alloc ?_ ?_ _ | omega | (simp; done) | (simp; omega)))
  have RT : Hid (RowAt itL 3 w13 w13.heap.size (some ⟨w12.heap.size, 0, none⟩) exT) := Lib.hid (row_blk exT itL_len (show w13.heap[w12.heap.size]? = some (.cells #[.string ⟨#[105, 110, 46, 98]⟩, .int .i64 2, .int .i64 1, .string ⟨#[105, 110, 46, 100]⟩, .int .i64 4, .int .i64 1] 53 (0, 0)) by rw [← hu13]; exact blk_new rfl) rfl)
  rw [hu13]
  have hw13 : Below w.heap.size w w13 := stepH hw12 hb13
  have RX := Lib.hid (row_step RX.out hb13)
  have AS := Lib.hid (AS.out.step hb13)
  have AO := Lib.hid (AO.out.step hb13)
  have RY := Lib.hid (row_step RY.out hb13)
  have z13 := hw13.size
  clear hb13 hu13
  refine (diff_any exX exT (some ⟨w2.heap.size, 0, none⟩) (some ⟨w12.heap.size, 0, none⟩) 2 2 E m _ RX.out RT.out ex_inX ex_inT (HE.out.below hw13) (cell_at HM.out hw13) (fun h => by cases h) (fun h => by cases h) ex_fx ex_ft (by decide)).mono ?_
  rintro e w14 ⟨⟨d, Md, Nd, rfl, hd, hnd, _, _⟩, hb14⟩
  replace hb14 : Below w13.heap.size w13 w14 := stepH (by (repeat' (first | with_reducible exact Below.refl _ _ | with_reducible assumption | with_reducible refine Below.drew ?_ | with_reducible refine below_drewN ?_ _ | with_reducible refine Below.setCell ?_ ?_ _ | with_reducible refine Below.alloc ?_ ?_ _ | omega | (simp; done) | (simp; omega)))) hb14
  have hw14 : Below w.heap.size w w14 := stepH hw13 hb14
  have RX := Lib.hid (row_step RX.out hb14)
  have AS := Lib.hid (AS.out.step hb14)
  have AO := Lib.hid (AO.out.step hb14)
  have RY := Lib.hid (row_step RY.out hb14)
  have RT := Lib.hid (row_step RT.out hb14)
  have z14 := hw14.size
  clear hb14
  rw [ex_d] at hd
  have AD := Lib.hid hd
  clear hd
  clear RT
  go_wp2_with fail
  refine (back_any s Ms Ns (makeF exSC) exX (some ⟨w2.heap.size, 0, none⟩) 2 E m _ AS.out (by omega) RX.out ex_inX (HE.out.below hw14) (cell_at HM.out hw14) (fun h => by cases h) ex_okS ex_fx (by show 2 + Ns + 2 ≤ 500; omega)).mono ?_
  rintro e w15 ⟨⟨b, Mb, Nb, rfl, hb, hnb, _, _⟩, hb15⟩
  replace hb15 : Below w14.heap.size w14 w15 := stepH (by (repeat' (first | with_reducible exact Below.refl _ _ | with_reducible assumption | with_reducible refine Below.drew ?_ | with_reducible refine below_drewN ?_ _ | with_reducible refine Below.setCell ?_ ?_ _ | with_reducible refine Below.alloc ?_ ?_ _ | omega | (simp; done) | (simp; omega)))) hb15
  have hw15 : Below w.heap.size w w15 := stepH hw14 hb15
  have RX := Lib.hid (row_step RX.out hb15)
  have AS := Lib.hid (AS.out.step hb15)
  have AO := Lib.hid (AO.out.step hb15)
  have RY := Lib.hid (row_step RY.out hb15)
  have AD := Lib.hid (AD.out.step hb15)
  have z15 := hw15.size
  clear hb15
  rw [ex_y, ex_b] at hb
  have AB := Lib.hid hb
  clear hb
  clear RX
  go_wp2_with fail
  refine (item_e ⟨#[105, 110, 46, 97]⟩ 1 _).mono ?_
  rintro e w16 ⟨rfl, hb16⟩
  replace hb16 : Below w15.heap.size w15 w16 := stepH (by (repeat' (first | with_reducible exact Below.refl _ _ | with_reducible assumption | with_reducible refine Below.drew ?_ | with_reducible refine below_drewN ?_ _ | with_reducible refine Below.setCell ?_ ?_ _ | with_reducible refine Below.alloc ?_ ?_ _ | omega | (simp; done) | (simp; omega)))) hb16
  have hw16 : Below w.heap.size w w16 := stepH hw15 hb16
  have AS := Lib.hid (AS.out.step hb16)
  have AO := Lib.hid (AO.out.step hb16)
  have RY := Lib.hid (row_step RY.out hb16)
  have AD := Lib.hid (AD.out.step hb16)
  have AB := Lib.hid (AB.out.step hb16)
  have z16 := hw16.size
  clear hb16
  go_wp2_with fail
  refine (item_e ⟨#[105, 110, 46, 97]⟩ 1 _).mono ?_
  rintro e w17 ⟨rfl, hb17⟩
  replace hb17 : Below w16.heap.size w16 w17 := stepH (by (repeat' (first | with_reducible exact Below.refl _ _ | with_reducible assumption | with_reducible refine Below.drew ?_ | with_reducible refine below_drewN ?_ _ | with_reducible refine Below.setCell ?_ ?_ _ | with_reducible refine Below.alloc ?_ ?_ _ | omega | (simp; done) | (simp; omega)))) hb17
  have hw17 : Below w.heap.size w w17 := stepH hw16 hb17
  have AS := Lib.hid (AS.out.step hb17)
  have AO := Lib.hid (AO.out.step hb17)
  have RY := Lib.hid (row_step RY.out hb17)
  have AD := Lib.hid (AD.out.step hb17)
  have AB := Lib.hid (AB.out.step hb17)
  have z17 := hw17.size
  clear hb17
  go_wp2_with fail
  obtain ⟨w18, hu18⟩ : ∃ u, w17.alloc (.cells #[.string ⟨#[105, 110, 46, 97]⟩, .int .i64 1, .int .i64 1, .string ⟨#[105, 110, 46, 97]⟩, .int .i64 1, .int .i64 1] 53) = u := ⟨_, rfl⟩
  have hb18 : Below w17.heap.size w17 w18 := by rw [← hu18]; (repeat' (first | with_reducible exact Below.refl _ _ | with_reducible assumption | with_reducible refine Below.drew ?_ | with_reducible refine below_drewN ?_ _ | with_reducible refine Below.setCell ?_ ?_ _ | with_reducible refine Below.alloc ?_ ?_ _ | omega | (simp; done) | (simp; omega)))
  have RW : Hid (RowAt itL 3 w18 w18.heap.size (some ⟨w17.heap.size, 0, none⟩) exTw) := Lib.hid (row_blk exTw itL_len (show w18.heap[w17.heap.size]? = some (.cells #[.string ⟨#[105, 110, 46, 97]⟩, .int .i64 1, .int .i64 1, .string ⟨#[105, 110, 46, 97]⟩, .int .i64 1, .int .i64 1] 53 (0, 0)) by rw [← hu18]; exact blk_new rfl) rfl)
  rw [hu18]
  have hw18 : Below w.heap.size w w18 := stepH hw17 hb18
  have AS := Lib.hid (AS.out.step hb18)
  have AO := Lib.hid (AO.out.step hb18)
  have RY := Lib.hid (row_step RY.out hb18)
  have AD := Lib.hid (AD.out.step hb18)
  have AB := Lib.hid (AB.out.step hb18)
  have z18 := hw18.size
  clear hb18 hu18
  refine (inputs_any exTw (some ⟨w17.heap.size, 0, none⟩) 2 E m _ RW.out ex_inTw (HE.out.below hw18) (cell_at HM.out hw18) (fun h => by cases h)).mono ?_
  rintro e w19 ⟨⟨hin⟩, hb19⟩
  replace hb19 : Below w18.heap.size w18 w19 := stepH (by (repeat' (first | with_reducible exact Below.refl _ _ | with_reducible assumption | with_reducible refine Below.drew ?_ | with_reducible refine below_drewN ?_ _ | with_reducible refine Below.setCell ?_ ?_ _ | with_reducible refine Below.alloc ?_ ?_ _ | omega | (simp; done) | (simp; omega)))) hb19
  have hw19 : Below w.heap.size w w19 := stepH hw18 hb19
  have AS := Lib.hid (AS.out.step hb19)
  have AO := Lib.hid (AO.out.step hb19)
  have RY := Lib.hid (row_step RY.out hb19)
  have AD := Lib.hid (AD.out.step hb19)
  have AB := Lib.hid (AB.out.step hb19)
  have RW := Lib.hid (row_step RW.out hb19)
  have z19 := hw19.size
  clear hb19
  rcases hin with ⟨g, hg, _, rfl⟩ | ⟨hg, _⟩
  case inr => rw [ex_ftw] at hg; cases hg
  rw [ex_ftw] at hg
  injection hg with hg
  subst hg
  rw [show errA E (some 0) = (.iface 184 (.pointer (some (E 0)))) from rfl]
  clear RW
  go_wp2_with fail
  refine (item_e ⟨#[105, 110, 46, 97]⟩ 1 _).mono ?_
  rintro e w20 ⟨rfl, hb20⟩
  replace hb20 : Below w19.heap.size w19 w20 := stepH (by (repeat' (first | with_reducible exact Below.refl _ _ | with_reducible assumption | with_reducible refine Below.drew ?_ | with_reducible refine below_drewN ?_ _ | with_reducible refine Below.setCell ?_ ?_ _ | with_reducible refine Below.alloc ?_ ?_ _ | omega | (simp; done) | (simp; omega)))) hb20
  have hw20 : Below w.heap.size w w20 := stepH hw19 hb20
  have AS := Lib.hid (AS.out.step hb20)
  have AO := Lib.hid (AO.out.step hb20)
  have RY := Lib.hid (row_step RY.out hb20)
  have AD := Lib.hid (AD.out.step hb20)
  have AB := Lib.hid (AB.out.step hb20)
  have z20 := hw20.size
  clear hb20
  go_wp2_with fail
  refine (item_e ⟨#[105, 110, 46, 98]⟩ 5 _).mono ?_
  rintro e w21 ⟨rfl, hb21⟩
  replace hb21 : Below w20.heap.size w20 w21 := stepH (by (repeat' (first | with_reducible exact Below.refl _ _ | with_reducible assumption | with_reducible refine Below.drew ?_ | with_reducible refine below_drewN ?_ _ | with_reducible refine Below.setCell ?_ ?_ _ | with_reducible refine Below.alloc ?_ ?_ _ | omega | (simp; done) | (simp; omega)))) hb21
  have hw21 : Below w.heap.size w w21 := stepH hw20 hb21
  have AS := Lib.hid (AS.out.step hb21)
  have AO := Lib.hid (AO.out.step hb21)
  have RY := Lib.hid (row_step RY.out hb21)
  have AD := Lib.hid (AD.out.step hb21)
  have AB := Lib.hid (AB.out.step hb21)
  have z21 := hw21.size
  clear hb21
  go_wp2_with fail
  refine (item_e ⟨#[105, 110, 46, 99]⟩ 7 _).mono ?_
  rintro e w22 ⟨rfl, hb22⟩
  replace hb22 : Below w21.heap.size w21 w22 := stepH (by (repeat' (first | with_reducible exact Below.refl _ _ | with_reducible assumption | with_reducible refine Below.drew ?_ | with_reducible refine below_drewN ?_ _ | with_reducible refine Below.setCell ?_ ?_ _ | with_reducible refine Below.alloc ?_ ?_ _ | omega | (simp; done) | (simp; omega)))) hb22
  have hw22 : Below w.heap.size w w22 := stepH hw21 hb22
  have AS := Lib.hid (AS.out.step hb22)
  have AO := Lib.hid (AO.out.step hb22)
  have RY := Lib.hid (row_step RY.out hb22)
  have AD := Lib.hid (AD.out.step hb22)
  have AB := Lib.hid (AB.out.step hb22)
  have z22 := hw22.size
  clear hb22
  go_wp2_with fail
  obtain ⟨w23, hu23⟩ : ∃ u, w22.alloc (.cells #[.string ⟨#[105, 110, 46, 97]⟩, .int .i64 1, .int .i64 1, .string ⟨#[105, 110, 46, 98]⟩, .int .i64 5, .int .i64 1, .string ⟨#[105, 110, 46, 99]⟩, .int .i64 7, .int .i64 1] 53) = u := ⟨_, rfl⟩
  have hb23 : Below w22.heap.size w22 w23 := by rw [← hu23]; (repeat' (first | with_reducible exact Below.refl _ _ | with_reducible assumption | with_reducible refine Below.drew ?_ | with_reducible refine below_drewN ?_ _ | with_reducible refine Below.setCell ?_ ?_ _ | with_reducible refine Below.alloc ?_ ?_ _ | omega | (simp; done) | (simp; omega)))
  have RZ : Hid (RowAt itL 3 w23 w23.heap.size (some ⟨w22.heap.size, 0, none⟩) exY) := Lib.hid (row_blk exY itL_len (show w23.heap[w22.heap.size]? = some (.cells #[.string ⟨#[105, 110, 46, 97]⟩, .int .i64 1, .int .i64 1, .string ⟨#[105, 110, 46, 98]⟩, .int .i64 5, .int .i64 1, .string ⟨#[105, 110, 46, 99]⟩, .int .i64 7, .int .i64 1] 53 (0, 0)) by rw [← hu23]; exact blk_new rfl) rfl)
  rw [hu23]
  have hw23 : Below w.heap.size w w23 := stepH hw22 hb23
  have AS := Lib.hid (AS.out.step hb23)
  have AO := Lib.hid (AO.out.step hb23)
  have RY := Lib.hid (row_step RY.out hb23)
  have AD := Lib.hid (AD.out.step hb23)
  have AB := Lib.hid (AB.out.step hb23)
  have z23 := hw23.size
  clear hb23 hu23
  refine (sameIs_any exY exY AY (some ⟨w22.heap.size, 0, none⟩) cY 3 _ RY.out RZ.out (by decide)).mono ?_
  rintro e w24 ⟨⟨b1, rfl, hq1⟩, hb24⟩
  replace hb24 : Below w23.heap.size w23 w24 := stepH (by (repeat' (first | with_reducible exact Below.refl _ _ | with_reducible assumption | with_reducible refine Below.drew ?_ | with_reducible refine below_drewN ?_ _ | with_reducible refine Below.setCell ?_ ?_ _ | with_reducible refine Below.alloc ?_ ?_ _ | omega | (simp; done) | (simp; omega)))) hb24
  have hw24 : Below w.heap.size w w24 := stepH hw23 hb24
  have AS := Lib.hid (AS.out.step hb24)
  have AO := Lib.hid (AO.out.step hb24)
  have RY := Lib.hid (row_step RY.out hb24)
  have AD := Lib.hid (AD.out.step hb24)
  have AB := Lib.hid (AB.out.step hb24)
  have RZ := Lib.hid (row_step RZ.out hb24)
  have z24 := hw24.size
  clear hb24
  obtain rfl := hq1.2 rfl
  clear hq1
  clear RY RZ
  go_wp2_with fail
  refine (changes_any d Md Nd _ _ AD.out (by omega)).mono ?_
  rintro e w25 ⟨⟨v, l, rfl, hv, hl, hln⟩, hb25⟩
  replace hb25 : Below w24.heap.size w24 w25 := stepH (by (repeat' (first | with_reducible exact Below.refl _ _ | with_reducible assumption | with_reducible refine Below.drew ?_ | with_reducible refine below_drewN ?_ _ | with_reducible refine Below.setCell ?_ ?_ _ | with_reducible refine Below.alloc ?_ ?_ _ | omega | (simp; done) | (simp; omega)))) hb25
  have hw25 : Below w.heap.size w w25 := stepH hw24 hb25
  have AS := Lib.hid (AS.out.step hb25)
  have AO := Lib.hid (AO.out.step hb25)
  have AD := Lib.hid (AD.out.step hb25)
  have AB := Lib.hid (AB.out.step hb25)
  have z25 := hw25.size
  clear hb25
  obtain rfl := hl.unique ex_dc
  obtain ⟨AV, cV, rfl, hrv, _, _⟩ := own_line (fun x _ => chL_len x) hv
  have RV1 := Lib.hid hrv
  clear hv hrv hl hln
  rw [show exD.length = 2 from rfl]
  clear AD
  go_wp2_with fail
  refine (clear_e ⟨#[105, 110, 46, 97]⟩ _).mono ?_
  rintro e w26 ⟨rfl, hb26⟩
  replace hb26 : Below w25.heap.size w25 w26 := stepH (by (repeat' (first | with_reducible exact Below.refl _ _ | with_reducible assumption | with_reducible refine Below.drew ?_ | with_reducible refine below_drewN ?_ _ | with_reducible refine Below.setCell ?_ ?_ _ | with_reducible refine Below.alloc ?_ ?_ _ | omega | (simp; done) | (simp; omega)))) hb26
  have hw26 : Below w.heap.size w w26 := stepH hw25 hb26
  have AS := Lib.hid (AS.out.step hb26)
  have AO := Lib.hid (AO.out.step hb26)
  have AB := Lib.hid (AB.out.step hb26)
  have RV1 := Lib.hid (row_step RV1.out hb26)
  have z26 := hw26.size
  clear hb26
  go_wp2_with fail
  refine (set_e ⟨#[105, 110, 46, 100]⟩ 4 _).mono ?_
  rintro e w27 ⟨rfl, hb27⟩
  replace hb27 : Below w26.heap.size w26 w27 := stepH (by (repeat' (first | with_reducible exact Below.refl _ _ | with_reducible assumption | with_reducible refine Below.drew ?_ | with_reducible refine below_drewN ?_ _ | with_reducible refine Below.setCell ?_ ?_ _ | with_reducible refine Below.alloc ?_ ?_ _ | omega | (simp; done) | (simp; omega)))) hb27
  have hw27 : Below w.heap.size w w27 := stepH hw26 hb27
  have AS := Lib.hid (AS.out.step hb27)
  have AO := Lib.hid (AO.out.step hb27)
  have AB := Lib.hid (AB.out.step hb27)
  have RV1 := Lib.hid (row_step RV1.out hb27)
  have z27 := hw27.size
  clear hb27
  go_wp2_with fail
  obtain ⟨w28, hu28⟩ : ∃ u, w27.alloc (.cells #[.string ⟨#[105, 110, 46, 97]⟩, .bool true, .int .i64 0, .int .i64 0, .string ⟨#[105, 110, 46, 100]⟩, .bool false, .int .i64 4, .int .i64 1] 41) = u := ⟨_, rfl⟩
  have hb28 : Below w27.heap.size w27 w28 := by rw [← hu28]; (repeat' (first | with_reducible exact Below.refl _ _ | with_reducible assumption | with_reducible refine Below.drew ?_ | with_reducible refine below_drewN ?_ _ | with_reducible refine Below.setCell ?_ ?_ _ | with_reducible refine Below.alloc ?_ ?_ _ | omega | (simp; done) | (simp; omega)))
  have RV2 : Hid (RowAt chL 4 w28 w28.heap.size (some ⟨w27.heap.size, 0, none⟩) exD) := Lib.hid (row_blk exD chL_len (show w28.heap[w27.heap.size]? = some (.cells #[.string ⟨#[105, 110, 46, 97]⟩, .bool true, .int .i64 0, .int .i64 0, .string ⟨#[105, 110, 46, 100]⟩, .bool false, .int .i64 4, .int .i64 1] 41 (0, 0)) by rw [← hu28]; exact blk_new rfl) rfl)
  rw [hu28]
  have hw28 : Below w.heap.size w w28 := stepH hw27 hb28
  have AS := Lib.hid (AS.out.step hb28)
  have AO := Lib.hid (AO.out.step hb28)
  have AB := Lib.hid (AB.out.step hb28)
  have RV1 := Lib.hid (row_step RV1.out hb28)
  have z28 := hw28.size
  clear hb28 hu28
  refine (sameCs_any exD AV (some ⟨w27.heap.size, 0, none⟩) cV 2 _ RV1.out RV2.out (by decide)).mono ?_
  rintro e w29 ⟨rfl, hb29⟩
  replace hb29 : Below w28.heap.size w28 w29 := stepH (by (repeat' (first | with_reducible exact Below.refl _ _ | with_reducible assumption | with_reducible refine Below.drew ?_ | with_reducible refine below_drewN ?_ _ | with_reducible refine Below.setCell ?_ ?_ _ | with_reducible refine Below.alloc ?_ ?_ _ | omega | (simp; done) | (simp; omega)))) hb29
  have hw29 : Below w.heap.size w w29 := stepH hw28 hb29
  have AS := Lib.hid (AS.out.step hb29)
  have AO := Lib.hid (AO.out.step hb29)
  have AB := Lib.hid (AB.out.step hb29)
  have RV1 := Lib.hid (row_step RV1.out hb29)
  have RV2 := Lib.hid (row_step RV2.out hb29)
  have z29 := hw29.size
  clear hb29
  clear RV1 RV2
  go_wp2_with fail
  refine (changes_any b Mb Nb _ _ AB.out (by omega)).mono ?_
  rintro e w30 ⟨⟨v, l, rfl, hv, hl, hln⟩, hb30⟩
  replace hb30 : Below w29.heap.size w29 w30 := stepH (by (repeat' (first | with_reducible exact Below.refl _ _ | with_reducible assumption | with_reducible refine Below.drew ?_ | with_reducible refine below_drewN ?_ _ | with_reducible refine Below.setCell ?_ ?_ _ | with_reducible refine Below.alloc ?_ ?_ _ | omega | (simp; done) | (simp; omega)))) hb30
  have hw30 : Below w.heap.size w w30 := stepH hw29 hb30
  have AS := Lib.hid (AS.out.step hb30)
  have AO := Lib.hid (AO.out.step hb30)
  have AB := Lib.hid (AB.out.step hb30)
  have z30 := hw30.size
  clear hb30
  obtain rfl := hl.unique ex_bc
  obtain ⟨AU, cU, rfl, hrv, _, _⟩ := own_line (fun x _ => chL_len x) hv
  have RU1 := Lib.hid hrv
  clear hv hrv hl hln
  rw [show exB.length = 2 from rfl]
  clear AB
  go_wp2_with fail
  refine (set_e ⟨#[105, 110, 46, 98]⟩ 2 _).mono ?_
  rintro e w31 ⟨rfl, hb31⟩
  replace hb31 : Below w30.heap.size w30 w31 := stepH (by (repeat' (first | with_reducible exact Below.refl _ _ | with_reducible assumption | with_reducible refine Below.drew ?_ | with_reducible refine below_drewN ?_ _ | with_reducible refine Below.setCell ?_ ?_ _ | with_reducible refine Below.alloc ?_ ?_ _ | omega | (simp; done) | (simp; omega)))) hb31
  have hw31 : Below w.heap.size w w31 := stepH hw30 hb31
  have AS := Lib.hid (AS.out.step hb31)
  have AO := Lib.hid (AO.out.step hb31)
  have RU1 := Lib.hid (row_step RU1.out hb31)
  have z31 := hw31.size
  clear hb31
  go_wp2_with fail
  refine (clear_e ⟨#[105, 110, 46, 99]⟩ _).mono ?_
  rintro e w32 ⟨rfl, hb32⟩
  replace hb32 : Below w31.heap.size w31 w32 := stepH (by (repeat' (first | with_reducible exact Below.refl _ _ | with_reducible assumption | with_reducible refine Below.drew ?_ | with_reducible refine below_drewN ?_ _ | with_reducible refine Below.setCell ?_ ?_ _ | with_reducible refine Below.alloc ?_ ?_ _ | omega | (simp; done) | (simp; omega)))) hb32
  have hw32 : Below w.heap.size w w32 := stepH hw31 hb32
  have AS := Lib.hid (AS.out.step hb32)
  have AO := Lib.hid (AO.out.step hb32)
  have RU1 := Lib.hid (row_step RU1.out hb32)
  have z32 := hw32.size
  clear hb32
  go_wp2_with fail
  obtain ⟨w33, hu33⟩ : ∃ u, w32.alloc (.cells #[.string ⟨#[105, 110, 46, 98]⟩, .bool false, .int .i64 2, .int .i64 1, .string ⟨#[105, 110, 46, 99]⟩, .bool true, .int .i64 0, .int .i64 0] 41) = u := ⟨_, rfl⟩
  have hb33 : Below w32.heap.size w32 w33 := by rw [← hu33]; (repeat' (first | with_reducible exact Below.refl _ _ | with_reducible assumption | with_reducible refine Below.drew ?_ | with_reducible refine below_drewN ?_ _ | with_reducible refine Below.setCell ?_ ?_ _ | with_reducible refine Below.alloc ?_ ?_ _ | omega | (simp; done) | (simp; omega)))
  have RU2 : Hid (RowAt chL 4 w33 w33.heap.size (some ⟨w32.heap.size, 0, none⟩) exB) := Lib.hid (row_blk exB chL_len (show w33.heap[w32.heap.size]? = some (.cells #[.string ⟨#[105, 110, 46, 98]⟩, .bool false, .int .i64 2, .int .i64 1, .string ⟨#[105, 110, 46, 99]⟩, .bool true, .int .i64 0, .int .i64 0] 41 (0, 0)) by rw [← hu33]; exact blk_new rfl) rfl)
  rw [hu33]
  have hw33 : Below w.heap.size w w33 := stepH hw32 hb33
  have AS := Lib.hid (AS.out.step hb33)
  have AO := Lib.hid (AO.out.step hb33)
  have RU1 := Lib.hid (row_step RU1.out hb33)
  have z33 := hw33.size
  clear hb33 hu33
  refine (sameCs_any exB AU (some ⟨w32.heap.size, 0, none⟩) cU 2 _ RU1.out RU2.out (by decide)).mono ?_
  rintro e w34 ⟨rfl, hb34⟩
  replace hb34 : Below w33.heap.size w33 w34 := stepH (by (repeat' (first | with_reducible exact Below.refl _ _ | with_reducible assumption | with_reducible refine Below.drew ?_ | with_reducible refine below_drewN ?_ _ | with_reducible refine Below.setCell ?_ ?_ _ | with_reducible refine Below.alloc ?_ ?_ _ | omega | (simp; done) | (simp; omega)))) hb34
  have hw34 : Below w.heap.size w w34 := stepH hw33 hb34
  have AS := Lib.hid (AS.out.step hb34)
  have AO := Lib.hid (AO.out.step hb34)
  have RU1 := Lib.hid (row_step RU1.out hb34)
  have RU2 := Lib.hid (row_step RU2.out hb34)
  have z34 := hw34.size
  clear hb34
  clear RU1 RU2
  have cT := (HE.out.below hw34).cell 0 (by decide)
  have qT := fun W => eql_err (E 0) W
  go_wp2_with fail
  refine (len_any o Mo 0 _ _ AO.out).mono ?_
  rintro e w35 ⟨rfl, hb35⟩
  replace hb35 : Below w34.heap.size w34 w35 := stepH (by (repeat' (first | with_reducible exact Below.refl _ _ | with_reducible assumption | with_reducible refine Below.drew ?_ | with_reducible refine below_drewN ?_ _ | with_reducible refine Below.setCell ?_ ?_ _ | with_reducible refine Below.alloc ?_ ?_ _ | omega | (simp; done) | (simp; omega)))) hb35
  have hw35 : Below w.heap.size w w35 := stepH hw34 hb35
  have AS := Lib.hid (AS.out.step hb35)
  have AO := Lib.hid (AO.out.step hb35)
  have z35 := hw35.size
  clear hb35
  clear AO
  clear cT qT
  go_wp2_with fail
  refine (lines_any s Ms Ns _ exSC exP _ AS.out (by omega) ex_sc ex_ps ex_pp).mono ?_
  rintro e w36 ⟨⟨v, rfl, hv⟩, hb36⟩
  replace hb36 : Below w35.heap.size w35 w36 := stepH (by (repeat' (first | with_reducible exact Below.refl _ _ | with_reducible assumption | with_reducible refine Below.drew ?_ | with_reducible refine below_drewN ?_ _ | with_reducible refine Below.setCell ?_ ?_ _ | with_reducible refine Below.alloc ?_ ?_ _ | omega | (simp; done) | (simp; omega)))) hb36
  have hw36 : Below w.heap.size w w36 := stepH hw35 hb36
  have AS := Lib.hid (AS.out.step hb36)
  have z36 := hw36.size
  clear hb36
  rw [ex_tx2] at hv
  obtain ⟨AL, cL, rfl, hrv, _, _⟩ := own_line (fun x _ => encS_len x) hv
  have RL := Lib.hid hrv
  clear hv hrv
  rw [show exTx.length = 2 from rfl]
  clear AS
  go_wp2_with fail
  obtain ⟨w37, hu37⟩ : ∃ u, w36.alloc (.cells #[.string ⟨#[115, 101, 116, 32, 105, 110, 46, 98, 32, 53]⟩, .string ⟨#[115, 101, 116, 32, 105, 110, 46, 99, 32, 55]⟩] 9) = u := ⟨_, rfl⟩
  have hb37 : Below w36.heap.size w36 w37 := by rw [← hu37]; (repeat' (first | with_reducible exact Below.refl _ _ | with_reducible assumption | with_reducible refine Below.drew ?_ | with_reducible refine below_drewN ?_ _ | with_reducible refine Below.setCell ?_ ?_ _ | with_reducible refine Below.alloc ?_ ?_ _ | omega | (simp; done) | (simp; omega)))
  have RL2 : Hid (RowAt encS 1 w37 w37.heap.size (some ⟨w36.heap.size, 0, none⟩) exTx) := Lib.hid (row_blk exTx encS_len (show w37.heap[w36.heap.size]? = some (.cells #[.string ⟨#[115, 101, 116, 32, 105, 110, 46, 98, 32, 53]⟩, .string ⟨#[115, 101, 116, 32, 105, 110, 46, 99, 32, 55]⟩] 9 (0, 0)) by rw [← hu37]; exact blk_new rfl) rfl)
  rw [hu37]
  have hw37 : Below w.heap.size w w37 := stepH hw36 hb37
  have RL := Lib.hid (row_step RL.out hb37)
  have z37 := hw37.size
  clear hb37 hu37
  refine (sameTexts_any exTx AL (some ⟨w36.heap.size, 0, none⟩) cL 2 _ RL.out RL2.out (by decide)).mono ?_
  rintro e w38 ⟨rfl, hb38⟩
  replace hb38 : Below w37.heap.size w37 w38 := stepH (by (repeat' (first | with_reducible exact Below.refl _ _ | with_reducible assumption | with_reducible refine Below.drew ?_ | with_reducible refine below_drewN ?_ _ | with_reducible refine Below.setCell ?_ ?_ _ | with_reducible refine Below.alloc ?_ ?_ _ | omega | (simp; done) | (simp; omega)))) hb38
  have hw38 : Below w.heap.size w w38 := stepH hw37 hb38
  have RL := Lib.hid (row_step RL.out hb38)
  have RL2 := Lib.hid (row_step RL2.out hb38)
  have z38 := hw38.size
  clear hb38
  go_wp2_with fail
  go_ret
  exact ⟨rfl, hw38⟩
end Go.Proofs.YtmoeoomlggjaaaaGreatDoor
