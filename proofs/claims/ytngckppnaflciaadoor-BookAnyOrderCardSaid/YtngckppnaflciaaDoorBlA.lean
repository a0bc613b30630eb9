/- tithelaw8.alike: a walk. -/
import Derived.Test.YtngckppnaflciaaDoorBkZ
namespace Go.Proofs.YtngckppnaflciaaDoor
open Go.RowKit Go.Maps

theorem sel_perm {S S' : List Pv} (F : Pv → Bool) (hp : S.Perm S') (hn : (S.map idb).Nodup) : sel F S' = sel F S := by
  unfold sel; rw [srt_perm hp hn]

set_option maxRecDepth 100000 in
set_option maxHeartbeats 16000000 in
theorem alike_any (a Ma : Nat) (cla : Bool) (Sa : List Pv) (b Mb : Nat) (clb : Bool) (Sb : List Pv) (s : ByteArray) (w : World) (ha : BookAt w a Ma cla Sa) (hb : BookAt w b Mb clb Sb) (hp : Sa.Perm Sb) (hS : Sa.length ≤ 10000) (hs : s.size ≤ maxLen) :
    Calls Tryd.prog 9 #[.pointer (some ⟨a, 0, none⟩), .pointer (some ⟨b, 0, none⟩), .string s] w fun e w' => e = .returned (.bool true) ∧ Below w.heap.size w w' := by
  obtain ⟨D, hown, hr⟩ := ha.own
  have hnd := hr.nodup
  have hlen : Sb.length = Sa.length := hp.length_eq.symm
  have HIN : ∀ (F : Pv → Bool), ∀ p ∈ sel F Sa, p.scale.length ≤ 1000000 := fun F p hp => (hr.inn p (sel_mem hnd hp)).1.len
  have HLA := Lib.hid (fun W (h : Below w.heap.size w W) => len_any a Ma cla Sa W (ha.step h))
  have HLB := Lib.hid (fun W (h : Below w.heap.size w W) => by have := len_any b Mb clb Sb W (hb.step h); rw [hlen] at this; exact this)
  have HPA := Lib.hid (fun W (h : Below w.heap.size w W) => provs_any a Ma cla Sa W (ha.step h) (by omega))
  have HPB := Lib.hid (fun W (h : Below w.heap.size w W) => by have := provs_any b Mb clb Sb W (hb.step h) (by omega); rw [sel_perm _ hp hnd] at this; exact this)
  have HKA := Lib.hid (fun W (h : Below w.heap.size w W) => keys_any a Ma cla Sa W (ha.step h) (by omega))
  have HKB := Lib.hid (fun W (h : Below w.heap.size w W) => by have := keys_any b Mb clb Sb W (hb.step h) (by omega); rw [← keysS_perm hp] at this; exact this)
  have HOA := Lib.hid (fun W (h : Below w.heap.size w W) => of_any a Ma cla Sa s W (ha.step h) (by omega))
  have HOB := Lib.hid (fun W (h : Below w.heap.size w W) => by have := of_any b Mb clb Sb s W (hb.step h) (by omega); rw [sel_perm _ hp hnd] at this; exact this)
  have HRA := Lib.hid (fun W (h : Below w.heap.size w W) => repeals_any a Ma cla Sa s W (ha.step h) (by omega))
  have HRB := Lib.hid (fun W (h : Below w.heap.size w W) => by have := repeals_any b Mb clb Sb s W (hb.step h) (by omega); rw [sel_perm _ hp hnd] at this; exact this)
  have HSP := Lib.hid (fun (F : Pv → Bool) (A B : Option Addr) (c d : Nat) (W : World) (h1 : ProvsAt W W.heap.size A (sel F Sa)) (h2 : ProvsAt W W.heap.size B (sel F Sa)) => sameProvs_any (sel F Sa) A B c d W h1 h2 (by have := sel_len (F := F) hnd; omega) (HIN F))
  have HST := Lib.hid (fun (A B : Option Addr) (c d : Nat) (W : World) (h1 : RowAt encS 1 W W.heap.size A (keysS Sa)) (h2 : RowAt encS 1 W W.heap.size B (keysS Sa)) => sameTexts_any (keysS Sa) A B c d W h1 h2 (by have := keysL_len Sa; unfold keysS; rw [List.length_map, List.length_mergeSort]; omega))
  have HG : Hid (∃ (p : Pv) (x : Bool), p.scale.length ≤ 1000000 ∧ (∀ W, Below w.heap.size w W → Calls Tryd.prog 22 #[.pointer (some ⟨a, 0, none⟩), .string s] W fun e w' => (∃ A c, e = .returned (.tuple #[pvV p A c, .bool x]) ∧ PvAt w' w'.heap.size p A c) ∧ Below W.heap.size W w') ∧
      (∀ W, Below w.heap.size w W → Calls Tryd.prog 22 #[.pointer (some ⟨b, 0, none⟩), .string s] W fun e w' => (∃ A c, e = .returned (.tuple #[pvV p A c, .bool x]) ∧ PvAt w' w'.heap.size p A c) ∧ Below W.heap.size W w')) := by
    have h0 : ∀ (w' : World), PvAt w' w'.heap.size zeroPv none 0 := fun w' => ⟨RowAt.nil, fun _ => rfl⟩
    by_cases he : ∃ p ∈ Sa, p.id = s
    · obtain ⟨p, hpa, rfl⟩ := he
      exact ⟨p, true, (hr.inn p hpa).1.len, fun W h => get_has a Ma cla Sa p W (ha.step h) hpa, fun W h => get_has b Mb clb Sb p W (hb.step h) (hp.mem_iff.1 hpa)⟩
    · refine ⟨zeroPv, false, by decide, fun W h => (get_no a Ma cla Sa s W (ha.step h) hs (fun p hpa e => he ⟨p, hpa, e⟩)).mono ?_, fun W h => (get_no b Mb clb Sb s W (hb.step h) hs (fun p hpb e => he ⟨p, hp.mem_iff.2 hpb, e⟩)).mono ?_⟩
      · rintro e w' ⟨rfl, k⟩; exact ⟨⟨none, 0, rfl, h0 _⟩, k⟩
      · rintro e w' ⟨rfl, k⟩; exact ⟨⟨none, 0, rfl, h0 _⟩, k⟩
  obtain ⟨gp, gx, gl, hga, hgb⟩ := HG.out
  have HGA := Lib.hid hga
  have HGB := Lib.hid hgb
  clear hown hr HIN hga hgb HG ha hb hp hnd
  go_enter Tryd.func9, Tryd.ntmps9
  go_wp2_with fail
  refine (HLA.out _ (by (repeat' (first | with_reducible exact Below.refl _ _ | with_reducible assumption | with_reducible refine Below.drew ?_ | with_reducible refine below_drewN ?_ _ | with_reducible refine Below.setCell ?_ ?_ _ | with_reducible refine Below.alloc ?_ ?_ _ | omega | (simp; done) | (simp; omega))))).mono ?_
  rintro e w1 ⟨rfl, hb1⟩
  have hw1 : Below w.heap.size w w1 := stepH (by (repeat' (first | with_reducible exact Below.refl _ _ | with_reducible assumption | with_reducible refine Below.drew ?_ | with_reducible refine below_drewN ?_ _ | with_reducible refine Below.setCell ?_ ?_ _ | with_reducible refine Below.alloc ?_ ?_ _ | omega | (simp; done) | (simp; omega)))) hb1
  clear hb1
  go_wp2_with fail
  refine (HLB.out _ (by (repeat' (first | with_reducible exact Below.refl _ _ | with_reducible assumption | with_reducible refine Below.drew ?_ | with_reducible refine below_drewN ?_ _ | with_reducible refine Below.setCell ?_ ?_ _ | with_reducible refine Below.alloc ?_ ?_ _ | omega | (simp; done) | (simp; omega))))).mono ?_
  rintro e w2 ⟨rfl, hb2⟩
  have hw2 : Below w.heap.size w w2 := stepH (by (repeat' (first | with_reducible exact Below.refl _ _ | with_reducible assumption | with_reducible refine Below.drew ?_ | with_reducible refine below_drewN ?_ _ | with_reducible refine Below.setCell ?_ ?_ _ | with_reducible refine Below.alloc ?_ ?_ _ | omega | (simp; done) | (simp; omega)))) hb2
  clear hb2
  go_wp2_with fail
  refine (HPA.out _ (by (repeat' (first | with_reducible exact Below.refl _ _ | with_reducible assumption | with_reducible refine Below.drew ?_ | with_reducible refine below_drewN ?_ _ | with_reducible refine Below.setCell ?_ ?_ _ | with_reducible refine Below.alloc ?_ ?_ _ | omega | (simp; done) | (simp; omega))))).mono ?_
  rintro e w3 ⟨⟨A1, c1, rfl, hr1⟩, hb3⟩
  have hw3 : Below w.heap.size w w3 := stepH (by (repeat' (first | with_reducible exact Below.refl _ _ | with_reducible assumption | with_reducible refine Below.drew ?_ | with_reducible refine below_drewN ?_ _ | with_reducible refine Below.setCell ?_ ?_ _ | with_reducible refine Below.alloc ?_ ?_ _ | omega | (simp; done) | (simp; omega)))) hb3
  have HX1 := Lib.hid hr1
  clear hr1
  clear hb3
  go_wp2_with fail
  refine (HPB.out _ (by (repeat' (first | with_reducible exact Below.refl _ _ | with_reducible assumption | with_reducible refine Below.drew ?_ | with_reducible refine below_drewN ?_ _ | with_reducible refine Below.setCell ?_ ?_ _ | with_reducible refine Below.alloc ?_ ?_ _ | omega | (simp; done) | (simp; omega))))).mono ?_
  rintro e w4 ⟨⟨A2, c2, rfl, hr2⟩, hb4⟩
  have hw4 : Below w.heap.size w w4 := stepH (by (repeat' (first | with_reducible exact Below.refl _ _ | with_reducible assumption | with_reducible refine Below.drew ?_ | with_reducible refine below_drewN ?_ _ | with_reducible refine Below.setCell ?_ ?_ _ | with_reducible refine Below.alloc ?_ ?_ _ | omega | (simp; done) | (simp; omega)))) hb4
  have HX1 := Lib.hid (HX1.out.step hb4)
  have HX2 := Lib.hid hr2
  clear hr2
  clear hb4
  go_wp2_with fail
  refine (HSP.out (fun _ => true) A1 A2 c1 c2 _ HX1.out HX2.out).mono ?_
  rintro e w5 ⟨rfl, hb5⟩
  have hw5 : Below w.heap.size w w5 := stepH (by (repeat' (first | with_reducible exact Below.refl _ _ | with_reducible assumption | with_reducible refine Below.drew ?_ | with_reducible refine below_drewN ?_ _ | with_reducible refine Below.setCell ?_ ?_ _ | with_reducible refine Below.alloc ?_ ?_ _ | omega | (simp; done) | (simp; omega)))) hb5
  clear HX1 HX2
  clear hb5
  go_wp2_with fail
  refine (HKA.out _ (by (repeat' (first | with_reducible exact Below.refl _ _ | with_reducible assumption | with_reducible refine Below.drew ?_ | with_reducible refine below_drewN ?_ _ | with_reducible refine Below.setCell ?_ ?_ _ | with_reducible refine Below.alloc ?_ ?_ _ | omega | (simp; done) | (simp; omega))))).mono ?_
  rintro e w6 ⟨⟨A1, c1, rfl, hr1⟩, hb6⟩
  have hw6 : Below w.heap.size w w6 := stepH (by (repeat' (first | with_reducible exact Below.refl _ _ | with_reducible assumption | with_reducible refine Below.drew ?_ | with_reducible refine below_drewN ?_ _ | with_reducible refine Below.setCell ?_ ?_ _ | with_reducible refine Below.alloc ?_ ?_ _ | omega | (simp; done) | (simp; omega)))) hb6
  have HX1 := Lib.hid hr1
  clear hr1
  clear hb6
  go_wp2_with fail
  refine (HKB.out _ (by (repeat' (first | with_reducible exact Below.refl _ _ | with_reducible assumption | with_reducible refine Below.drew ?_ | with_reducible refine below_drewN ?_ _ | with_reducible refine Below.setCell ?_ ?_ _ | with_reducible refine Below.alloc ?_ ?_ _ | omega | (simp; done) | (simp; omega))))).mono ?_
  rintro e w7 ⟨⟨A2, c2, rfl, hr2⟩, hb7⟩
  have hw7 : Below w.heap.size w w7 := stepH (by (repeat' (first | with_reducible exact Below.refl _ _ | with_reducible assumption | with_reducible refine Below.drew ?_ | with_reducible refine below_drewN ?_ _ | with_reducible refine Below.setCell ?_ ?_ _ | with_reducible refine Below.alloc ?_ ?_ _ | omega | (simp; done) | (simp; omega)))) hb7
  have HX1 := Lib.hid ((HX1.out.below hb7 (Nat.le_refl _)).more hb7.size)
  have HX2 := Lib.hid hr2
  clear hr2
  clear hb7
  go_wp2_with fail
  refine (HST.out A1 A2 c1 c2 _ HX1.out HX2.out).mono ?_
  rintro e w8 ⟨rfl, hb8⟩
  have hw8 : Below w.heap.size w w8 := stepH (by (repeat' (first | with_reducible exact Below.refl _ _ | with_reducible assumption | with_reducible refine Below.drew ?_ | with_reducible refine below_drewN ?_ _ | with_reducible refine Below.setCell ?_ ?_ _ | with_reducible refine Below.alloc ?_ ?_ _ | omega | (simp; done) | (simp; omega)))) hb8
  clear HX1 HX2
  clear hb8
  go_wp2_with fail
  refine (HOA.out _ (by (repeat' (first | with_reducible exact Below.refl _ _ | with_reducible assumption | with_reducible refine Below.drew ?_ | with_reducible refine below_drewN ?_ _ | with_reducible refine Below.setCell ?_ ?_ _ | with_reducible refine Below.alloc ?_ ?_ _ | omega | (simp; done) | (simp; omega))))).mono ?_
  rintro e w9 ⟨⟨A1, c1, rfl, hr1⟩, hb9⟩
  have hw9 : Below w.heap.size w w9 := stepH (by (repeat' (first | with_reducible exact Below.refl _ _ | with_reducible assumption | with_reducible refine Below.drew ?_ | with_reducible refine below_drewN ?_ _ | with_reducible refine Below.setCell ?_ ?_ _ | with_reducible refine Below.alloc ?_ ?_ _ | omega | (simp; done) | (simp; omega)))) hb9
  have HX1 := Lib.hid hr1
  clear hr1
  clear hb9
  go_wp2_with fail
  refine (HOB.out _ (by (repeat' (first | with_reducible exact Below.refl _ _ | with_reducible assumption | with_reducible refine Below.drew ?_ | with_reducible refine below_drewN ?_ _ | with_reducible refine Below.setCell ?_ ?_ _ | with_reducible refine Below.alloc ?_ ?_ _ | omega | (simp; done) | (simp; omega))))).mono ?_
  rintro e w10 ⟨⟨A2, c2, rfl, hr2⟩, hb10⟩
  have hw10 : Below w.heap.size w w10 := stepH (by (repeat' (first | with_reducible exact Below.refl _ _ | with_reducible assumption | with_reducible refine Below.drew ?_ | with_reducible refine below_drewN ?_ _ | with_reducible refine Below.setCell ?_ ?_ _ | with_reducible refine Below.alloc ?_ ?_ _ | omega | (simp; done) | (simp; omega)))) hb10
  have HX1 := Lib.hid (HX1.out.step hb10)
  have HX2 := Lib.hid hr2
  clear hr2
  clear hb10
  go_wp2_with fail
  refine (HSP.out (ofB s) A1 A2 c1 c2 _ HX1.out HX2.out).mono ?_
  rintro e w11 ⟨rfl, hb11⟩
  have hw11 : Below w.heap.size w w11 := stepH (by (repeat' (first | with_reducible exact Below.refl _ _ | with_reducible assumption | with_reducible refine Below.drew ?_ | with_reducible refine below_drewN ?_ _ | with_reducible refine Below.setCell ?_ ?_ _ | with_reducible refine Below.alloc ?_ ?_ _ | omega | (simp; done) | (simp; omega)))) hb11
  clear HX1 HX2
  clear hb11
  go_wp2_with fail
  refine (HRA.out _ (by (repeat' (first | with_reducible exact Below.refl _ _ | with_reducible assumption | with_reducible refine Below.drew ?_ | with_reducible refine below_drewN ?_ _ | with_reducible refine Below.setCell ?_ ?_ _ | with_reducible refine Below.alloc ?_ ?_ _ | omega | (simp; done) | (simp; omega))))).mono ?_
  rintro e w12 ⟨⟨A1, c1, rfl, hr1⟩, hb12⟩
  have hw12 : Below w.heap.size w w12 := stepH (by (repeat' (first | with_reducible exact Below.refl _ _ | with_reducible assumption | with_reducible refine Below.drew ?_ | with_reducible refine below_drewN ?_ _ | with_reducible refine Below.setCell ?_ ?_ _ | with_reducible refine Below.alloc ?_ ?_ _ | omega | (simp; done) | (simp; omega)))) hb12
  have HX1 := Lib.hid hr1
  clear hr1
  clear hb12
  go_wp2_with fail
  refine (HRB.out _ (by (repeat' (first | with_reducible exact Below.refl _ _ | with_reducible assumption | with_reducible refine Below.drew ?_ | with_reducible refine below_drewN ?_ _ | with_reducible refine Below.setCell ?_ ?_ _ | with_reducible refine Below.alloc ?_ ?_ _ | omega | (simp; done) | (simp; omega))))).mono ?_
  rintro e w13 ⟨⟨A2, c2, rfl, hr2⟩, hb13⟩
  have hw13 : Below w.heap.size w w13 := stepH (by (repeat' (first | with_reducible exact Below.refl _ _ | with_reducible assumption | with_reducible refine Below.drew ?_ | with_reducible refine below_drewN ?_ _ | with_reducible refine Below.setCell ?_ ?_ _ | with_reducible refine Below.alloc ?_ ?_ _ | omega | (simp; done) | (simp; omega)))) hb13
  have HX1 := Lib.hid (HX1.out.step hb13)
  have HX2 := Lib.hid hr2
  clear hr2
  clear hb13
  go_wp2_with fail
  refine (HSP.out (repB s) A1 A2 c1 c2 _ HX1.out HX2.out).mono ?_
  rintro e w14 ⟨rfl, hb14⟩
  have hw14 : Below w.heap.size w w14 := stepH (by (repeat' (first | with_reducible exact Below.refl _ _ | with_reducible assumption | with_reducible refine Below.drew ?_ | with_reducible refine below_drewN ?_ _ | with_reducible refine Below.setCell ?_ ?_ _ | with_reducible refine Below.alloc ?_ ?_ _ | omega | (simp; done) | (simp; omega)))) hb14
  clear HX1 HX2
  clear hb14
  go_wp2_with fail
  refine (HGA.out _ (by (repeat' (first | with_reducible exact Below.refl _ _ | with_reducible assumption | with_reducible refine Below.drew ?_ | with_reducible refine below_drewN ?_ _ | with_reducible refine Below.setCell ?_ ?_ _ | with_reducible refine Below.alloc ?_ ?_ _ | omega | (simp; done) | (simp; omega))))).mono ?_
  rintro e w15 ⟨⟨A1, c1, rfl, hr1⟩, hb15⟩
  have hw15 : Below w.heap.size w w15 := stepH (by (repeat' (first | with_reducible exact Below.refl _ _ | with_reducible assumption | with_reducible refine Below.drew ?_ | with_reducible refine below_drewN ?_ _ | with_reducible refine Below.setCell ?_ ?_ _ | with_reducible refine Below.alloc ?_ ?_ _ | omega | (simp; done) | (simp; omega)))) hb15
  have HX1 := Lib.hid hr1
  clear hr1 hb15
  unfold pvV
  have hq : (gx == gx) = true := by simp
  go_wp2_with fail
  have t15 : Below w15.heap.size w15 (w15.alloc (.cells #[.string gp.id, .string gp.key, .int .i64 gp.s0, .int .i64 gp.s1, .int .i64 gp.ena, .int .i64 gp.rank, .string gp.rep, .int .i64 gp.kind, .int .i64 gp.n, .int .i64 gp.d, .slice A1 gp.scale.length c1, .string gp.rule, .int .i64 gp.mode, .int .i64 gp.un, .int .i64 gp.ud] 43)) := by (repeat' (first | with_reducible exact Below.refl _ _ | with_reducible assumption | with_reducible refine Below.drew ?_ | with_reducible refine below_drewN ?_ _ | with_reducible refine Below.setCell ?_ ?_ _ | with_reducible refine Below.alloc ?_ ?_ _ | omega | (simp; done) | (simp; omega)))
  refine (HGB.out _ (hw15.trans (t15.mono hw15.size))).mono ?_
  rintro e w16 ⟨⟨A2, c2, rfl, hr2⟩, hb16⟩
  have hw16 : Below w.heap.size w w16 := stepH (hw15.trans (t15.mono hw15.size)) hb16
  have hq16 : Below w15.heap.size w15 w16 := stepH t15 hb16
  have Q1 := keepH hb16 (g := w15.heap.size) (blk_new rfl)
  have HX2 := Lib.hid hr2
  have HX3 := Lib.hid (HX1.out.step hq16)
  have z16 := hq16.size
  clear hr2 hb16
  have cQ1 := cellH Q1
  have lQ1 := lt_of_H Q1
  have cQ1a := fun (x : Obj) (o : Nat) => (World.cell?_alloc_lt w16 x ⟨w15.heap.size, o, none⟩ lQ1).trans (cQ1 o)
  unfold pvV
  go_wp2_with fail
  have t16 : Below w16.heap.size w16 (w16.alloc (.cells #[.string gp.id, .string gp.key, .int .i64 gp.s0, .int .i64 gp.s1, .int .i64 gp.ena, .int .i64 gp.rank, .string gp.rep, .int .i64 gp.kind, .int .i64 gp.n, .int .i64 gp.d, .slice A2 gp.scale.length c2, .string gp.rule, .int .i64 gp.mode, .int .i64 gp.un, .int .i64 gp.ud] 43)) := by (repeat' (first | with_reducible exact Below.refl _ _ | with_reducible assumption | with_reducible refine Below.drew ?_ | with_reducible refine below_drewN ?_ _ | with_reducible refine Below.setCell ?_ ?_ _ | with_reducible refine Below.alloc ?_ ?_ _ | omega | (simp; done) | (simp; omega)))
  refine (psame_is gp A1 A2 c1 c2 _ (HX3.out.step t16) (HX2.out.step t16) gl).mono ?_
  rintro e w17 ⟨rfl, hb17⟩
  have hw17 : Below w.heap.size w w17 := stepH (hw16.trans (t16.mono hw16.size)) hb17
  go_wp2_with fail
  go_ret
  exact ⟨rfl, hw17⟩
end Go.Proofs.YtngckppnaflciaaDoor
