/- Book.Register: what it takes: a walk. -/
import Derived.Test.YtngckppnaflciaaDoorBkS
namespace Go.Proofs.YtngckppnaflciaaDoor
open Go.RowKit Go.Maps

theorem heap_turn {w w' : World} {M g : Nat} {cs : Array Value} {t : TypeId} {z : Nat × Nat} (h : w.heap[g]? = some (.cells cs t z)) (hg : w.grownBy w' (some M)) (hm : ∃ es k, w.heap[M]? = some (.map es k)) : w'.heap[g]? = some (.cells cs t z) := by
  obtain ⟨es, k, hm⟩ := hm
  exact (hg.block g (Array.getElem?_eq_some_iff.1 h).1 (fun e => by injection e with e; subst e; rw [h] at hm; cases hm)).trans h
theorem only_turn {w w' : World} {M : Nat} (hg : w.grownBy w' (some M)) : OnlyL [M] w w' := ⟨hg.os, hg.tape, hg.output, hg.size, fun k hk hn => hg.block k hk (fun e => by injection e with e; subst e; simp at hn)⟩
theorem own_step {w w' : World} {M n : Nat} {k : TypeId} {D : DataW Value} (h : w.ownsMap Tryd.prog k RV M n D) (hb : Below w.heap.size w w') : w'.ownsMap Tryd.prog k RV M n D := h.kept (row := none) ⟨hb.os, hb.tape, hb.output, hb.size, fun i hi _ => hb.block i hi⟩ (by simp)

set_option maxRecDepth 100000 in
set_option maxHeartbeats 8000000 in
theorem register_new (b M : Nat) (S : List Pv) (p : Pv) (A : Option Addr) (c : Nat) (E : Nat → Addr) (m : Int) (w : World) (h : BookAt w b M false S) (hE : Env LB E w)
    (hm : w.cell? ⟨12, 0, none⟩ = some (.int .i64 m)) (hI : PvIn p) (hA : PvAt w w.heap.size p A c) (hx : validE p = none) (hn : ∀ q ∈ S, q.id ≠ p.id) (hS : S.length < 2000) (hid : p.id.size ≤ maxLen) :
    Calls Tryd.prog 8 #[.pointer (some ⟨b, 0, none⟩), pvV p A c] w fun e w' => e = .returned .nilIface ∧ BookAt w' b M false (S ++ [p]) ∧ OnlyL [M] w w' := by
  have HH := Lib.hid h
  have BX := Lib.hid h.box
  have cB := cellH BX
  obtain ⟨lB, lB1, lB2⟩ := ltH BX
  have HV := Lib.hid (fun (W : World) (k : Below w.heap.size w W) => pvalid_is p A c none E m W (hE.below k) (cell_at hm k) hI.w (hA.step k) hx)
  have HC := Lib.hid (fun (W : World) (k : Below w.heap.size w W) => pclone_any p A c W (hA.step k) hI.len)
  obtain ⟨D, hown, hr⟩ := h.own
  have HF := Lib.hid (fun W => hr.miss hid hn W S.length M)
  have HO := Lib.hid hown
  have HR := Lib.hid hr
  have hz := size_is hown hr
  clear h hE hm hA hx hown hr
  unfold pvV at *
  go_enter Tryd.func8, Tryd.ntmps8
  have cB2 := fun o => cell_alloc (o := o) (cB 1)
  go_wp2_with fail
  refine (HV.out _ (by (repeat' (first | with_reducible exact Below.refl _ _ | with_reducible assumption | with_reducible refine Below.drew ?_ | with_reducible refine below_drewN ?_ _ | with_reducible refine Below.setCell ?_ ?_ _ | with_reducible refine Below.alloc ?_ ?_ _ | omega | (simp; done) | (simp; omega))))).mono ?_
  rintro e w1 ⟨rfl, hb1⟩
  have hw1 : Below w.heap.size w w1 := stepH (by (repeat' (first | with_reducible exact Below.refl _ _ | with_reducible assumption | with_reducible refine Below.drew ?_ | with_reducible refine below_drewN ?_ _ | with_reducible refine Below.setCell ?_ ?_ _ | with_reducible refine Below.alloc ?_ ?_ _ | omega | (simp; done) | (simp; omega)))) hb1
  have P1 := keepH hb1 (g := w.heap.size) (blk_new rfl)
  have B1 := keepH hb1 (blk_old BX.out)
  have HO1 : Hid (w1.ownsMap Tryd.prog 9 RV M S.length D) := Lib.hid (HO.out.kept (row := none) ⟨hw1.os, hw1.tape, hw1.output, hw1.size, fun i hi _ => hw1.block i hi⟩ (by simp))
  clear hb1 cB cB2 BX HV
  rw [show errB E none = .nilIface from rfl]
  go_upto_region 6 with fail
  go_cut [7] (fun s7 wx => s7 = .bool false ∧ Below w1.heap.size w1 wx)
  case first =>
    have x0 : w1.cell? ⟨b, 0, none⟩ = some (.map (some M)) := cellH B1 0
    have x1 : w1.cell? ⟨w.heap.size, 0, none⟩ = some (.string p.id) := cellH P1 0
    have x2 := HO1.out
    have hl := HF.out
    have lb : b < w1.heap.size := lt_of_H B1
    have lp : w.heap.size < w1.heap.size := lt_of_H P1
    have lm : M < w1.heap.size := HO1.out.lt
    go_region_held3 (fun w' => w'.cell? ⟨b, 0, none⟩ = some (.map (some M)) ∧ w'.cell? ⟨w.heap.size, 0, none⟩ = some (.string p.id) ∧ w'.ownsMap Tryd.prog 9 RV M S.length D) (first | exact ⟨x0, x1, x2⟩ | exact ⟨cell_alloc x0, cell_alloc x1, x2.alloc _⟩)
      (fail)
    all_goals go_wp2_with fail
    all_goals go_meet
    all_goals exact ⟨rfl, by (repeat' (first | with_reducible exact Below.refl _ _ | with_reducible assumption | with_reducible refine Below.drew ?_ | with_reducible refine below_drewN ?_ _ | with_reducible refine Below.setCell ?_ ?_ _ | with_reducible refine Below.alloc ?_ ?_ _ | omega | (simp; done) | (simp; omega)))⟩
  case rest =>
    obtain ⟨rfl, hb2⟩ := hcut
    obtain ⟨w2, rfl⟩ : ∃ x : World, x = wc := ⟨_, rfl⟩
    have hw2 := stepH hw1 hb2
    replace P1 := keepH hb2 P1.out
    replace B1 := keepH hb2 B1.out
    have HO2 : Hid (w2.ownsMap Tryd.prog 9 RV M S.length D) := Lib.hid (HO1.out.kept (row := none) ⟨hb2.os, hb2.tape, hb2.output, hb2.size, fun i hi _ => hb2.block i hi⟩ (by simp))
    clear hb2 hw1 HO1
    have cB := cellH B1
    have h2 : decide ((2000 : Int) ≤ (S.length : Int)) = false := decide_eq_false (by omega)
    go_wp2_with (at_len; refine wpList_len_own _ rfl _ 53 rfl 9 43 Tryd.underlying53 RV M S.length D rfl HO2.out ?_; rw [hz])
    clear cB h2
    have hkey := keyS_of hid
    have hw2d : Below w.heap.size w w2.drew := hw2.drew
    have P2 : Hid (w2.drew.heap[w.heap.size]? = some (.cells #[.string p.id, .string p.key, .int .i64 p.s0, .int .i64 p.s1, .int .i64 p.ena, .int .i64 p.rank, .string p.rep, .int .i64 p.kind, .int .i64 p.n, .int .i64 p.d, .slice A p.scale.length c, .string p.rule, .int .i64 p.mode, .int .i64 p.un, .int .i64 p.ud] 43 (0, 0))) := P1
    have B2 : Hid (w2.drew.heap[b]? = some (.cells #[.map (some M), .bool false] 55 (0, 0))) := B1
    have HO2d : Hid (w2.drew.ownsMap Tryd.prog 9 RV M S.length D) := Lib.hid HO2.out.drew
    have x0 : w2.drew.cell? ⟨b, 0, none⟩ = some (.map (some M)) := cellH B2 0
    have x1 := cellH P2
    clear P1 B1 HO2
    go_region_held3 (fun w' => w'.cell? ⟨b, 0, none⟩ = some (.map (some M)) ∧ ∀ o, w'.cell? ⟨w.heap.size, o, none⟩ = #[.string p.id, .string p.key, .int .i64 p.s0, .int .i64 p.s1, .int .i64 p.ena, .int .i64 p.rank, .string p.rep, .int .i64 p.kind, .int .i64 p.n, .int .i64 p.d, .slice A p.scale.length c, .string p.rule, .int .i64 p.mode, .int .i64 p.un, .int .i64 p.ud][o]?) (first | with_reducible exact ⟨x0, x1⟩ | with_reducible exact ⟨d0, d1⟩)
      (first | (go_at_call 19; refine (HC.out w2.drew hw2d).mono ?_; rintro e w3 ⟨⟨A', c', rfl, hpa⟩, hb3⟩; have hw3 : Below w.heap.size w w3 := stepH hw2d hb3; have P3 := keepH hb3 P2.out; have B3 := keepH hb3 B2.out; have HO3 := Lib.hid (own_step HO2d.out hb3); have HPA := Lib.hid hpa; obtain ⟨w4, hrunU, hown4, hg4⟩ := HO3.out.update lawS Tryd.underlying53 (by unfold maxLen; omega) (key := .string p.id) (val := (.agg #[.string p.id, .string p.key, .int .i64 p.s0, .int .i64 p.s1, .int .i64 p.ena, .int .i64 p.rank, .string p.rep, .int .i64 p.kind, .int .i64 p.n, .int .i64 p.d, .slice A' p.scale.length c', .string p.rule, .int .i64 p.mode, .int .i64 p.un, .int .i64 p.ud])) hkey (d := .held (pvV p A' c')) (ps := []) rfl; have hm3 := own_isMap HO3.out; have P4 := Lib.hid (heap_turn P3.out hg4 hm3); have B4 := Lib.hid (heap_turn B3.out hg4 hm3); have HO4 := Lib.hid hown4; have HG4 := Lib.hid hg4; have d0 : w4.cell? ⟨b, 0, none⟩ = some (.map (some M)) := cellH B4 0; have d1 := cellH P4; have x0 : w3.cell? ⟨b, 0, none⟩ = some (.map (some M)) := cellH B3 0; have x1 := cellH P3; clear hpa hown4 hg4 hb3))
    have hw3' : Below w.heap.size w w3 := hw3
    clear x0 x1 d0 d1 hrunU
    go_wp2_with fail
    go_ret
    have hm3 := own_isMap HO3.out
    have ho4 := only_turn HG4.out
    refine ⟨rfl, ⟨B4.out, D.put (keyS p.id) (.held (pvV p A' c')), by rw [List.length_append]; exact HO4.out, ?_⟩, ?_⟩
    · exact ((HR.out.step hw3').put HPA.out ⟨hI, hid⟩ (fun q hq e => hn q hq (idb_inj e))).only ho4 hm3
    · exact OnlyL.trans ⟨hw3'.os, hw3'.tape, hw3'.output, hw3'.size, fun k hk _ => hw3'.block k hk⟩ ho4
end Go.Proofs.YtngckppnaflciaaDoor
