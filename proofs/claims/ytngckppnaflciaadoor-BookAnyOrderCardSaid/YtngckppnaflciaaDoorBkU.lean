/- Book.Get: walks. -/
import Derived.Test.YtngckppnaflciaaDoorBkT
namespace Go.Proofs.YtngckppnaflciaaDoor
open Go.RowKit Go.Maps

set_option maxRecDepth 100000 in
set_option maxHeartbeats 8000000 in
theorem get_has (b M : Nat) (cl : Bool) (S : List Pv) (p : Pv) (w : World) (h : BookAt w b M cl S) (hp : p ∈ S) :
    Calls Tryd.prog 22 #[.pointer (some ⟨b, 0, none⟩), .string p.id] w fun e w' => (∃ A c, e = .returned (.tuple #[pvV p A c, .bool true]) ∧ PvAt w' w'.heap.size p A c) ∧ Below w.heap.size w w' := by
  have BX := Lib.hid h.box
  have cB := cellH BX
  obtain ⟨lB, lB1, lB2⟩ := ltH BX
  obtain ⟨D, hown, hr⟩ := h.own
  obtain ⟨A0, c0, ha, HF⟩ := hr.find hp
  have hpi := (hr.inn p hp).1
  have HC := Lib.hid (fun (W : World) (k : Below w.heap.size w W) => pclone_new p A0 c0 W (ha.step k) hpi.len)
  have HFF := Lib.hid HF
  have HO := Lib.hid hown
  clear h hr ha HF hown
  unfold pvV at *
  go_enter Tryd.func22, Tryd.ntmps22
  have cB2 := fun o => cell_alloc (o := o) (cB 0)
  go_wp2_with (at_lookup; refine wpList_lookup_is rfl _ _ _ _ rfl _ _ _ rfl rfl ((HFF.out _ S.length M (HO.out.alloc _)).1) ?_)
  refine (HC.out _ (by (repeat' (first | with_reducible exact Below.refl _ _ | with_reducible assumption | with_reducible refine Below.drew ?_ | with_reducible refine below_drewN ?_ _ | with_reducible refine Below.setCell ?_ ?_ _ | with_reducible refine Below.alloc ?_ ?_ _ | omega | (simp; done) | (simp; omega))))).mono ?_
  rintro e w1 ⟨⟨A', c', rfl, hpa, hna⟩, hb1⟩
  have hw1 : Below w.heap.size w w1 := stepH (by (repeat' (first | with_reducible exact Below.refl _ _ | with_reducible assumption | with_reducible refine Below.drew ?_ | with_reducible refine below_drewN ?_ _ | with_reducible refine Below.setCell ?_ ?_ _ | with_reducible refine Below.alloc ?_ ?_ _ | omega | (simp; done) | (simp; omega)))) hb1
  have R1 : Hid (w1.heap[w.heap.size]? = some (.cells #[.string ByteArray.empty, .string ByteArray.empty, .int .i64 0, .int .i64 0, .int .i64 0, .int .i64 0, .string ByteArray.empty, .int .i64 0, .int .i64 0, .int .i64 0, .slice none 0 0, .string ByteArray.empty, .int .i64 0, .int .i64 0, .int .i64 0] 43 (0, 0))) := keepH hb1 (g := w.heap.size) (blk_old (blk_new rfl))
  have HPA := Lib.hid hpa
  clear hb1 hpa cB cB2 BX
  have cR := cellH R1
  have fR := frozH R1
  obtain ⟨lR, lR1, lR2⟩ := ltH R1
  go_wp2_with fail
  change bodyPost _ _ _ _ _ (setAll w1 w.heap.size 0 [.string p.id, .string p.key, .int .i64 p.s0, .int .i64 p.s1, .int .i64 p.ena, .int .i64 p.rank, .string p.rep, .int .i64 p.kind, .int .i64 p.n, .int .i64 p.d, .slice A' p.scale.length c', .string p.rule, .int .i64 p.mode, .int .i64 p.un, .int .i64 p.ud])
  have R2 : Hid ((setAll w1 w.heap.size 0 [.string p.id, .string p.key, .int .i64 p.s0, .int .i64 p.s1, .int .i64 p.ena, .int .i64 p.rank, .string p.rep, .int .i64 p.kind, .int .i64 p.n, .int .i64 p.d, .slice A' p.scale.length c', .string p.rule, .int .i64 p.mode, .int .i64 p.un, .int .i64 p.ud]).heap[w.heap.size]? = some (.cells #[.string p.id, .string p.key, .int .i64 p.s0, .int .i64 p.s1, .int .i64 p.ena, .int .i64 p.rank, .string p.rep, .int .i64 p.kind, .int .i64 p.n, .int .i64 p.d, .slice A' p.scale.length c', .string p.rule, .int .i64 p.mode, .int .i64 p.un, .int .i64 p.ud] 43 (0, 0))) := Lib.hid (setAll_same R1.out rfl)
  have hp2 := Lib.hid (HPA.out.setAll (g := w.heap.size) (fun a ha => by have := hna a ha; simp at this; omega) 0 [.string p.id, .string p.key, .int .i64 p.s0, .int .i64 p.s1, .int .i64 p.ena, .int .i64 p.rank, .string p.rep, .int .i64 p.kind, .int .i64 p.n, .int .i64 p.d, .slice A' p.scale.length c', .string p.rule, .int .i64 p.mode, .int .i64 p.un, .int .i64 p.ud])
  have hw2 : Below w.heap.size w (setAll w1 w.heap.size 0 [.string p.id, .string p.key, .int .i64 p.s0, .int .i64 p.s1, .int .i64 p.ena, .int .i64 p.rank, .string p.rep, .int .i64 p.kind, .int .i64 p.n, .int .i64 p.d, .slice A' p.scale.length c', .string p.rule, .int .i64 p.mode, .int .i64 p.un, .int .i64 p.ud]) := setAll_below hw1 (Nat.le_refl _) _ _
  clear cR fR lR lR1 lR2 R1 HPA hw1
  generalize setAll w1 w.heap.size 0 [.string p.id, .string p.key, .int .i64 p.s0, .int .i64 p.s1, .int .i64 p.ena, .int .i64 p.rank, .string p.rep, .int .i64 p.kind, .int .i64 p.n, .int .i64 p.d, .slice A' p.scale.length c', .string p.rule, .int .i64 p.mode, .int .i64 p.un, .int .i64 p.ud] = w2 at *
  have cR := cellH R2
  exact bodyPost_ret (v := .tuple #[.agg #[.string p.id, .string p.key, .int .i64 p.s0, .int .i64 p.s1, .int .i64 p.ena, .int .i64 p.rank, .string p.rep, .int .i64 p.kind, .int .i64 p.n, .int .i64 p.d, .slice A' p.scale.length c', .string p.rule, .int .i64 p.mode, .int .i64 p.un, .int .i64 p.ud], .bool true]) (by simp [results, Tryd.results22, go_sem, cR]) rfl ⟨⟨A', c', rfl, hp2.out⟩, hw2⟩

set_option maxRecDepth 100000 in
set_option maxHeartbeats 8000000 in
theorem get_no (b M : Nat) (cl : Bool) (S : List Pv) (s : ByteArray) (w : World) (h : BookAt w b M cl S) (hs : s.size ≤ maxLen) (hn : ∀ p ∈ S, p.id ≠ s) :
    Calls Tryd.prog 22 #[.pointer (some ⟨b, 0, none⟩), .string s] w fun e w' => e = .returned (.tuple #[pvV zeroPv none 0, .bool false]) ∧ Below w.heap.size w w' := by
  have BX := Lib.hid h.box
  have cB := cellH BX
  obtain ⟨lB, lB1, lB2⟩ := ltH BX
  obtain ⟨D, hown, hr⟩ := h.own
  have HFF := Lib.hid (fun W => hr.miss hs hn W S.length M)
  have HO := Lib.hid hown
  clear h hr hown
  unfold pvV zeroPv at *
  dsimp only [List.length_nil] at *
  go_enter Tryd.func22, Tryd.ntmps22
  have cB2 := fun o => cell_alloc (o := o) (cB 0)
  go_wp2_with (at_lookup; refine wpList_lookup_is rfl _ _ _ _ rfl _ _ _ rfl rfl ((HFF.out _ (HO.out.alloc _))) ?_)
  have R := Lib.hid (blk_old (o := .cells #[.string ByteArray.empty, .string ByteArray.empty, .int .i64 0, .int .i64 0, .int .i64 0, .int .i64 0, .string ByteArray.empty, .int .i64 0, .int .i64 0, .int .i64 0, .slice none 0 0, .string ByteArray.empty, .int .i64 0, .int .i64 0, .int .i64 0] 43) (blk_new (w := w) (o := .cells #[.string ⟨#[]⟩, .string ⟨#[]⟩, .int .i64 0, .int .i64 0, .int .i64 0, .int .i64 0, .string ⟨#[]⟩, .int .i64 0, .int .i64 0, .int .i64 0, .slice none 0 0, .string ⟨#[]⟩, .int .i64 0, .int .i64 0, .int .i64 0] 43) rfl))
  have cR := cellH R
  exact bodyPost_ret (v := .tuple #[.agg #[.string ⟨#[]⟩, .string ⟨#[]⟩, .int .i64 0, .int .i64 0, .int .i64 0, .int .i64 0, .string ⟨#[]⟩, .int .i64 0, .int .i64 0, .int .i64 0, .slice none 0 0, .string ⟨#[]⟩, .int .i64 0, .int .i64 0, .int .i64 0], .bool false]) (by simp [results, Tryd.results22, go_sem, cR]) rfl ⟨rfl, by (repeat' (first | with_reducible exact Below.refl _ _ | with_reducible assumption | with_reducible refine Below.drew ?_ | with_reducible refine below_drewN ?_ _ | with_reducible refine Below.setCell ?_ ?_ _ | with_reducible refine Below.alloc ?_ ?_ _ | omega | (simp; done) | (simp; omega)))⟩
end Go.Proofs.YtngckppnaflciaaDoor
