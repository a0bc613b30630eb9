/- BootCircles: the law's walk. -/
import Derived.Test.YtodlbfekoohpoaaDoorBootJ
namespace Go.Proofs.YtodlbfekoohpoaaDoor
open Go.RowKit

theorem Box.low {b L P U um k : Nat} {v : Value} {N : List Nt} {B : List ByteArray} {cl : Bool} {w : World} {o : Obj} (h : Led b w L P U v N B cl um) (hk : k < b) (ho : w.heap[k]? = some o) : Box L P U v w k o :=
  ⟨⟨lt_of_H ho, by have := h.hL; omega, by have := h.hP; omega, by have := h.hU; omega, fun e => by have := (h.own.lt _ e).1; omega⟩, ho⟩

set_option maxRecDepth 10000 in
set_option maxHeartbeats 8000000 in
theorem circles_any (x y : Int) (E : Nat → Addr) (m : Int) (w : World) (hE : Env L5 E w) (hm : w.cell? ⟨5, 0, none⟩ = some (.int .i64 m)) :
    Calls Tryd.prog 5 #[.int .i64 x, .int .i64 y] w fun e w' => e = .returned (.bool true) ∧ Below w.heap.size w w' := by
  obtain ⟨a, ha⟩ : ∃ a, x.tmod 60 = a := ⟨_, rfl⟩
  have a1 : -60 < a := by rw [← ha]; exact Int.lt_tmod_of_pos x (by decide)
  have a2 : a < 60 := by rw [← ha]; exact Int.tmod_lt_of_pos x (by decide)
  obtain ⟨c, hcc⟩ : ∃ c, (a + 60).tmod 60 = c := ⟨_, rfl⟩
  have c1 : 0 ≤ c := by rw [← hcc]; exact Int.tmod_nonneg _ (by omega)
  have c2 : c < 60 := by rw [← hcc]; exact Int.tmod_lt_of_pos _ (by decide)
  obtain ⟨z, hz⟩ : ∃ z, c + 1 = z := ⟨_, rfl⟩
  have z1 : 1 ≤ z := by omega
  have z2 : z ≤ 60 := by omega
  obtain ⟨p, hp⟩ : ∃ p, y.tmod z = p := ⟨_, rfl⟩
  have p1 : -60 < p := by have := Int.lt_tmod_of_pos y (show 0 < z by omega); omega
  have p2 : p < 60 := by have := Int.tmod_lt_of_pos y (show 0 < z by omega); omega
  have p3 : 0 < p + z := by have := Int.lt_tmod_of_pos y (show 0 < z by omega); omega
  obtain ⟨q, hq⟩ : ∃ q, (p + z).tmod z = q := ⟨_, rfl⟩
  have q1 : 0 ≤ q := by rw [← hq]; exact Int.tmod_nonneg _ (by omega)
  have q2 : q < z := by rw [← hq]; exact Int.tmod_lt_of_pos _ (by omega)
  have hn0 : ¬ z = 0 := by omega
  have hpw : IntKind.i64.wrap (p + z) = p + z := by rw [IntKind.wrap_i64]; omega
  have hzw : IntKind.i64.wrap (z - 1) = z - 1 := by rw [IntKind.wrap_i64]; omega
  have HE := Lib.hid hE
  have HM := Lib.hid hm
  obtain ⟨n, hn⟩ : ∃ n : Nat, (n : Int) = z := ⟨z.toNat, by omega⟩
  obtain ⟨f, hf⟩ : ∃ f : Nat, (f : Int) = q := ⟨q.toNat, by omega⟩
  have HN := Lib.hid hn
  have HF := Lib.hid hf
  have n1 : Hid (1 ≤ n ∧ n ≤ 60 ∧ f < n) := Lib.hid ⟨by omega, by omega, by omega⟩
  obtain ⟨w1, h1⟩ : ∃ w1, w.alloc (.cells #[.int .i64 x] 3) = w1 := ⟨_, rfl⟩
  have hb1 : Below w.heap.size w w1 := by rw [← h1]; (repeat' (first | with_reducible exact Below.refl _ _ | with_reducible assumption | with_reducible refine Below.drew ?_ | with_reducible refine below_drewN ?_ _ | with_reducible refine Below.setCell ?_ ?_ _ | with_reducible refine Below.alloc ?_ ?_ _ | omega | (simp; done) | (simp; omega)))
  have NB1 : Hid (w1.heap[w.heap.size]? = some (.cells #[.int .i64 x] 3 (0, 0))) := Lib.hid (by rw [← h1]; exact blk_new rfl)
  have E1 := Lib.hid (hE.below hb1)
  have M1 := Lib.hid (cellOf hb1 hm)
  have HB1 := Lib.hid hb1
  clear hE hm hb1 hn hf
  go_enter Tryd.func5, Tryd.ntmps5
  go_wp2_with fail
  refine (first_any E m _ E1.out M1.out).mono ?_
  rintro e w2 ⟨rfl, hb2⟩
  have NB2 := keepH hb2 NB1.out
  have E2 := Lib.hid (E1.out.below hb2)
  have M2 := Lib.hid (cellOf hb2 M1.out)
  have HB2 := Lib.hid hb2
  clear hb2
  go_wp2_with fail
  refine (new_any _).mono ?_
  rintro e w3 ⟨L, P, U, rfl, hl, hb3⟩
  have NB3 := keepH hb3 NB2.out
  have S3 : Hid (St w2.heap.size E m L P U w3 (.slice none 0 0) [] [] false 0) := Lib.hid ⟨hl, E2.out.below hb3, cellOf hb3 M2.out, hb3.size, L5_lt E2.out, cell_lt M2.out⟩
  have HB3 := Lib.hid hb3
  have n2 := lt_of_H NB2
  clear hl hb3
  obtain ⟨w4, h4⟩ : ∃ w4, w3.alloc (.cells #[.pointer (some ⟨L, 0, none⟩)] 24) = w4 := ⟨_, rfl⟩
  have hb4 : Below w3.heap.size w3 w4 := by rw [← h4]; (repeat' (first | with_reducible exact Below.refl _ _ | with_reducible assumption | with_reducible refine Below.drew ?_ | with_reducible refine below_drewN ?_ _ | with_reducible refine Below.setCell ?_ ?_ _ | with_reducible refine Below.alloc ?_ ?_ _ | omega | (simp; done) | (simp; omega)))
  have LB4 : Hid (Box L P U (.slice none 0 0) w4 w3.heap.size (.cells #[.pointer (some ⟨L, 0, none⟩)] 24 (0, 0))) := Lib.hid (by rw [← h4]; exact Box.new S3.out.led _)
  have S4 := Lib.hid (S3.out.below hb4)
  have NB4 := keepH hb4 NB3.out
  have NX4 := Lib.hid (Box.low S4.out.led n2 NB4.out)
  have k4 : w4.cell? ⟨w3.heap.size, 0, none⟩ = some (.pointer (some ⟨L, 0, none⟩)) := LB4.out.cell 0
  have n4 : w4.cell? ⟨w.heap.size, 0, none⟩ = some (.int .i64 x) := NX4.out.cell 0
  have m4 : w4.frozen? ⟨w.heap.size, 0, none⟩ = false := frozH NB4 0
  have HB4 := Lib.hid hb4
  clear hb4
  obtain ⟨w5, h5⟩ : ∃ w5, w4.setCell ⟨w.heap.size, 0, none⟩ (.int .i64 z) = w5 := ⟨_, rfl⟩
  have NX5 : Hid (Box L P U (.slice none 0 0) w5 w.heap.size (.cells #[.int .i64 z] 3 (0, 0))) := Lib.hid (by rw [← h5]; exact NX4.out.set _)
  have K5 : Hid (Led w2.heap.size w5 L P U (.slice none 0 0) [] [] false 0 ∧ LKeep [w.heap.size] L P U (.slice none 0 0) w4 (.slice none 0 0) w5) := Lib.hid (by rw [← h5]; exact S4.out.led.set NX4.out.1 _)
  have n5 : w5.cell? ⟨w.heap.size, 0, none⟩ = some (.int .i64 z) := NX5.out.cell 0
  have hmf : ∀ (fn : Fn) (first cap : Array Value) (w : World), (Instr.makeFunc fn first cap).run Tryd.prog w = .ok (.func fn first cap) w := fun _ _ _ _ => rfl
  have BW5 : Below w.heap.size w w5 := by
    rw [← h5]
    exact Below.setCell (((HB1.out.trans (HB2.out.mono HB1.out.size)).trans (HB3.out.mono (by have := HB1.out.size; have := HB2.out.size; omega))).trans (HB4.out.mono (by have := HB1.out.size; have := HB2.out.size; have := HB3.out.size; omega))) (Nat.le_refl _) _
  have z5 : w5.heap.size = w4.heap.size := by rw [← h5]; simp [World.setCell]
  have S5 : Hid (St w2.heap.size E m L P U w5 (.slice none 0 0) [] [] false 0) := Lib.hid ⟨K5.out.1, env_keep HE.out BW5 (L5_lt HE.out), (BW5.cell (cell_lt HM.out)).trans HM.out, by rw [z5]; exact S4.out.hb, S4.out.low⟩
  have LB5 : Hid (Box L P U (.slice none 0 0) w5 w3.heap.size (.cells #[.pointer (some ⟨L, 0, none⟩)] 24 (0, 0))) := Lib.hid (K5.out.2.box LB4.out (fun e => by have := List.mem_singleton.1 e; have := HB3.out.size; omega))
  obtain ⟨u1, hu1⟩ : ∃ u1, w5.alloc (.cells #[.int .i64 0] 3) = u1 := ⟨_, rfl⟩
  obtain ⟨u2, hu2⟩ : ∃ u2, u1.alloc (.cells #[.int .i64 0] 3) = u2 := ⟨_, rfl⟩
  obtain ⟨u3, hu3⟩ : ∃ u3, u2.alloc (.cells #[.nilFunc] 49) = u3 := ⟨_, rfl⟩
  have zu1 : u1.heap.size = w5.heap.size + 1 := by rw [← hu1]; exact Array.size_push _
  have zu2 : u2.heap.size = w5.heap.size + 1 + 1 := by rw [← hu2, ← zu1]; exact Array.size_push _
  have bu1 : Below w5.heap.size w5 u1 := by rw [← hu1]; (repeat' (first | with_reducible exact Below.refl _ _ | with_reducible assumption | with_reducible refine Below.drew ?_ | with_reducible refine below_drewN ?_ _ | with_reducible refine Below.setCell ?_ ?_ _ | with_reducible refine Below.alloc ?_ ?_ _ | omega | (simp; done) | (simp; omega)))
  have bu2 : Below u1.heap.size u1 u2 := by rw [← hu2]; (repeat' (first | with_reducible exact Below.refl _ _ | with_reducible assumption | with_reducible refine Below.drew ?_ | with_reducible refine below_drewN ?_ _ | with_reducible refine Below.setCell ?_ ?_ _ | with_reducible refine Below.alloc ?_ ?_ _ | omega | (simp; done) | (simp; omega)))
  have bu3 : Below u2.heap.size u2 u3.drew := by rw [← hu3]; (repeat' (first | with_reducible exact Below.refl _ _ | with_reducible assumption | with_reducible refine Below.drew ?_ | with_reducible refine below_drewN ?_ _ | with_reducible refine Below.setCell ?_ ?_ _ | with_reducible refine Below.alloc ?_ ?_ _ | omega | (simp; done) | (simp; omega)))
  have T1 := S5.out.below bu1
  have T2 := T1.below bu2
  have S6 := Lib.hid (T2.below bu3)
  have C6 : Hid (Box L P U (.slice none 0 0) u3.drew w5.heap.size (.cells #[.int .i64 0] 3 (0, 0))) := Lib.hid (((by rw [← hu1]; exact Box.new S5.out.led _ : Box L P U (.slice none 0 0) u1 w5.heap.size (.cells #[.int .i64 0] 3 (0, 0))).below bu2).below bu3)
  have O6 : Hid (Box L P U (.slice none 0 0) u3.drew (w5.heap.size + 1) (.cells #[.int .i64 0] 3 (0, 0))) := Lib.hid ((by rw [← hu2, ← zu1]; exact Box.new T1.led _ : Box L P U (.slice none 0 0) u2 (w5.heap.size + 1) (.cells #[.int .i64 0] 3 (0, 0))).below bu3)
  have A6 : Hid (Box L P U (.slice none 0 0) u3.drew (w5.heap.size + 1 + 1) (.cells #[.nilFunc] 49 (0, 0))) := Lib.hid ((by rw [← hu3, ← zu2]; exact Box.new T2.led _ : Box L P U (.slice none 0 0) u3 (w5.heap.size + 1 + 1) (.cells #[.nilFunc] 49 (0, 0))).below (by (repeat' (first | with_reducible exact Below.refl _ _ | with_reducible assumption | with_reducible refine Below.drew ?_ | with_reducible refine below_drewN ?_ _ | with_reducible refine Below.setCell ?_ ?_ _ | with_reducible refine Below.alloc ?_ ?_ _ | omega | (simp; done) | (simp; omega)))))
  have L6 := Lib.hid (((LB5.out.below bu1).below bu2).below bu3)
  have N6 := Lib.hid (((NX5.out.below bu1).below bu2).below bu3)
  have HB6 : Hid (Below w5.heap.size w5 u3.drew) := Lib.hid ((bu1.trans (bu2.mono bu1.size)).trans (bu3.mono (by have := bu1.size; have := bu2.size; omega)))
  have a6 : u3.drew.cell? ⟨w5.heap.size + 1 + 1, 0, none⟩ = some .nilFunc := A6.out.cell 0
  have af6 : u3.drew.frozen? ⟨w5.heap.size + 1 + 1, 0, none⟩ = false := frozH (Lib.hid A6.out.2) 0
  have al6 : w5.heap.size + 1 + 1 < u3.drew.heap.size := A6.out.1.lt
  obtain ⟨w6, h6⟩ : ∃ w6, u3.drew = w6 := ⟨_, rfl⟩
  rw [h6] at a6 af6 al6 S6 C6 O6 A6 L6 N6 HB6
  obtain ⟨w7, h7⟩ : ∃ w7, w6.setCell ⟨w5.heap.size + 1 + 1, 0, none⟩ (.func (.func 21) #[] #[.pointer (some ⟨w3.heap.size, 0, none⟩), .pointer (some ⟨w.heap.size, 0, none⟩), .pointer (some ⟨w5.heap.size + 1 + 1, 0, none⟩), .pointer (some ⟨w5.heap.size, 0, none⟩), .pointer (some ⟨w5.heap.size + 1, 0, none⟩)]) = w7 := ⟨_, rfl⟩
  have A7 : Hid (Box L P U (.slice none 0 0) w7 (w5.heap.size + 1 + 1) (.cells #[(.func (.func 21) #[] #[.pointer (some ⟨w3.heap.size, 0, none⟩), .pointer (some ⟨w.heap.size, 0, none⟩), .pointer (some ⟨w5.heap.size + 1 + 1, 0, none⟩), .pointer (some ⟨w5.heap.size, 0, none⟩), .pointer (some ⟨w5.heap.size + 1, 0, none⟩)])] 49 (0, 0))) := Lib.hid (by rw [← h7]; exact A6.out.set _)
  have K7 : Hid (Led w2.heap.size w7 L P U (.slice none 0 0) [] [] false 0 ∧ LKeep [w5.heap.size + 1 + 1] L P U (.slice none 0 0) w6 (.slice none 0 0) w7) := Lib.hid (by rw [← h7]; exact S6.out.led.set A6.out.1 _)
  have a7 : w7.cell? ⟨w5.heap.size + 1 + 1, 0, none⟩ = some (.func (.func 21) #[] #[.pointer (some ⟨w3.heap.size, 0, none⟩), .pointer (some ⟨w.heap.size, 0, none⟩), .pointer (some ⟨w5.heap.size + 1 + 1, 0, none⟩), .pointer (some ⟨w5.heap.size, 0, none⟩), .pointer (some ⟨w5.heap.size + 1, 0, none⟩)]) := A7.out.cell 0
  have g1 : w3.heap.size < w5.heap.size := by rw [z5]; exact LB4.out.1.lt
  have g2 : w2.heap.size ≤ w3.heap.size := HB3.out.size
  have S7 := Lib.hid (S6.out.keep K7.out.1 K7.out.2 (fun j hj => by rw [List.mem_singleton.1 hj]; omega))
  have R7 : Hid (Ring n L P U w3.heap.size w.heap.size (w5.heap.size + 1 + 1) w5.heap.size (w5.heap.size + 1) (.slice none 0 0) w7) := Lib.hid ⟨K7.out.2.box L6.out (fun e => by have := List.mem_singleton.1 e; omega), by rw [HN.out]; exact K7.out.2.box N6.out (fun e => by have := List.mem_singleton.1 e; omega), A7.out, K7.out.2.box O6.out (fun e => by have := List.mem_singleton.1 e; omega), by omega, by omega, by omega, by omega⟩
  have C7 := Lib.hid (K7.out.2.box C6.out (fun e => by have := List.mem_singleton.1 e; omega))
  have HASK := Lib.hid (ask_any n f n1.out.1 n1.out.2.1 n1.out.2.2 w2.heap.size L P U w3.heap.size w.heap.size (w5.heap.size + 1 + 1) w5.heap.size (w5.heap.size + 1) E m (by omega) n 0 q w7 (.slice none 0 0) 0 (by omega) (by rw [Nat.add_zero]; exact HF.out.symm) S7.out (Nat.le_refl _) R7.out C7.out)
  have hsf : ∀ (a : Addr) (fn : Fn) (x y : Array Value) (w : World), (store a (.func fn x y)).run Tryd.prog w = stored Tryd.prog w a (.func fn x y) .plain := fun a fn x y w => run_store _ w a _ _ rfl
  have gw : w.heap.size ≤ w2.heap.size := by have := HB1.out.size; have := HB2.out.size; omega
  have HW7 : Hid (Below w.heap.size w w7) := Lib.hid ((BW5.trans (HB6.out.mono (by omega))).trans (by rw [← h7]; exact Below.setCell (Below.refl _ _) (by show _ ≤ w5.heap.size + 1 + 1; omega) _))
  clear bu1 bu2 bu3 T1 T2 zu1 zu2 BW5 z5
  subst hu1
  subst hu2
  subst hu3
  go_wp2_with fail
  clear k4 n4 m4
  go_region_held3 (fun w' => w'.cell? ⟨w.heap.size, 0, none⟩ = some (.int .i64 z)) (first | with_reducible exact n5 | go_keep)
    (fail)
  go_wp2_with fail
  refine HASK.out.mono ?_
  rintro e w8 ⟨v8, um8, rfl, s8, k8, c8, u8⟩
  have S8 := Lib.hid s8
  have K8 := Lib.hid k8
  have R8 := Lib.hid (R7.out.keep k8 (by simp))
  have C8 := Lib.hid c8
  have HW8 : Hid (Below w.heap.size w w8) := Lib.hid (HW7.out.trans ((S7.out.keepB k8 (by simp; omega)).mono gw))
  have hfs := nameS_ok (i := f) (by have := n1.out; omega)
  have HNM := Lib.hid (fun W => (by have hq := nameL_any f W (by have := n1.out; omega); rw [HF.out] at hq; exact hq : Calls Tryd.prog 22 #[.int .i64 q] W fun e w' => e = .returned (.string (nameS f)) ∧ Below W.heap.size W w'))
  have HPL := Lib.hid (fun W (hW : Below w8.heap.size w8 W) => (place_any w2.heap.size L P U um8 v8 (ringN n f n) (ringB n f 0) false (nameS f) W (S8.out.led.below hW) hfs.2).mono (R' := fun e w' => e = .returned (.tuple #[.int .i64 (z - 1), .bool true]) ∧ Below W.heap.size W w') (fun e w' hq => by
    rw [idx_first n1.out.2.1 n1.out.2.2] at hq
    refine ⟨hq.1.trans ?_, hq.2⟩
    show Ending.returned (.tuple #[.int .i64 ((n - 1 : Nat) : Int), .bool true]) = _
    rw [show ((n - 1 : Nat) : Int) = z - 1 by have := HN.out; have := n1.out; omega]))
  have HLN := Lib.hid (fun W (hW : Below w8.heap.size w8 W) => (by have hq := len_any w2.heap.size L P U um8 v8 (ringN n f n) (ringB n f 0) false W (S8.out.led.below hW); rw [ringN_len, HN.out] at hq; exact hq : Calls Tryd.prog 20 #[.pointer (some ⟨L, 0, none⟩)] W fun e w' => e = .returned (.int .i64 z) ∧ Below W.heap.size W w'))
  have l8 : w8.cell? ⟨w3.heap.size, 0, none⟩ = some (.pointer (some ⟨L, 0, none⟩)) := R8.out.l.cell 0
  rw [HN.out]
  clear s8 k8 c8 a6 af6 al6 a7
  go_wp2_with fail
  go_region_held3 (fun w' => w'.cell? ⟨w3.heap.size, 0, none⟩ = some (.pointer (some ⟨L, 0, none⟩))) (first | with_reducible exact l8 | go_keep)
    (first | (go_at_call 22; refine (HNM.out _).mono ?_; rintro e w9 ⟨rfl, hb9⟩; have hw9 : Below w8.heap.size w8 w9 := stepH (by (repeat' (first | with_reducible exact Below.refl _ _ | with_reducible assumption | with_reducible refine Below.drew ?_ | with_reducible refine below_drewN ?_ _ | with_reducible refine Below.setCell ?_ ?_ _ | with_reducible refine Below.alloc ?_ ?_ _ | omega | (simp; done) | (simp; omega)))) hb9; replace l8 := cellOf hw9 l8) | (go_at_call 24; refine (HPL.out _ (by (repeat' (first | with_reducible exact Below.refl _ _ | with_reducible assumption | with_reducible refine Below.drew ?_ | with_reducible refine below_drewN ?_ _ | with_reducible refine Below.setCell ?_ ?_ _ | with_reducible refine Below.alloc ?_ ?_ _ | omega | (simp; done) | (simp; omega))))).mono ?_; rintro e w10 ⟨rfl, hb10⟩; have hw10 : Below w8.heap.size w8 w10 := stepH (by (repeat' (first | with_reducible exact Below.refl _ _ | with_reducible assumption | with_reducible refine Below.drew ?_ | with_reducible refine below_drewN ?_ _ | with_reducible refine Below.setCell ?_ ?_ _ | with_reducible refine Below.alloc ?_ ?_ _ | omega | (simp; done) | (simp; omega)))) hb10; replace l8 := cellOf hb10 (by first | exact l8 | exact cell_drew l8)))
  all_goals (
    have i1 : w10.cell? ⟨w.heap.size, 0, none⟩ = some (.int .i64 z) := (by have hq := (R8.out.n.below hw10).cell 0; rw [HN.out] at hq; exact hq)
    have i2 : w10.cell? ⟨w5.heap.size, 0, none⟩ = some (.int .i64 1) := (C8.out.below hw10).cell 0
    have i3 : w10.cell? ⟨w5.heap.size + 1, 0, none⟩ = some (.int .i64 0) := (R8.out.o.below hw10).cell 0
    go_wp2_with fail
    go_region_held3 (fun w' => w'.cell? ⟨w3.heap.size, 0, none⟩ = some (.pointer (some ⟨L, 0, none⟩)) ∧ w'.cell? ⟨w.heap.size, 0, none⟩ = some (.int .i64 z) ∧ w'.cell? ⟨w5.heap.size, 0, none⟩ = some (.int .i64 1) ∧ w'.cell? ⟨w5.heap.size + 1, 0, none⟩ = some (.int .i64 0)) (first | with_reducible exact ⟨l8, i1, i2, i3⟩ | go_keep)
      (first | (go_at_call 20; refine (HLN.out _ (by (repeat' (first | with_reducible exact Below.refl _ _ | with_reducible assumption | with_reducible refine Below.drew ?_ | with_reducible refine below_drewN ?_ _ | with_reducible refine Below.setCell ?_ ?_ _ | with_reducible refine Below.alloc ?_ ?_ _ | omega | (simp; done) | (simp; omega))))).mono ?_; rintro e w11 ⟨rfl, hb11⟩; have hw11 : Below w8.heap.size w8 w11 := stepH (by (repeat' (first | with_reducible exact Below.refl _ _ | with_reducible assumption | with_reducible refine Below.drew ?_ | with_reducible refine below_drewN ?_ _ | with_reducible refine Below.setCell ?_ ?_ _ | with_reducible refine Below.alloc ?_ ?_ _ | omega | (simp; done) | (simp; omega)))) hb11; replace l8 := cellOf hb11 (by first | exact l8 | exact cell_drew l8); replace i1 := cellOf hb11 (by first | exact i1 | exact cell_drew i1); replace i2 := cellOf hb11 (by first | exact i2 | exact cell_drew i2); replace i3 := cellOf hb11 (by first | exact i3 | exact cell_drew i3)))
    all_goals (
      go_wp2_with fail
      go_ret
      exact ⟨rfl, HW8.out.trans (Below.mono (by (repeat' (first | with_reducible exact Below.refl _ _ | with_reducible assumption | with_reducible refine Below.drew ?_ | with_reducible refine below_drewN ?_ _ | with_reducible refine Below.setCell ?_ ?_ _ | with_reducible refine Below.alloc ?_ ?_ _ | omega | (simp; done) | (simp; omega))) : Below w8.heap.size w8 _) HW8.out.size)⟩))

end Go.Proofs.YtodlbfekoohpoaaDoor
