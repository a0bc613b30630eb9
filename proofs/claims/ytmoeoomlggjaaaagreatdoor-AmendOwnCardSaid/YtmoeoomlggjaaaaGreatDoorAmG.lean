/- An amendment's changes: the walk. -/
import Derived.Test.YtmoeoomlggjaaaaGreatDoorAmF
namespace Go.Proofs.YtmoeoomlggjaaaaGreatDoor
open Go.RowKit Go.Maps

theorem infoCh : (Tryz.prog.info? 41).map (fun i => (i.zero, i.size, i.bytes)) = some (some (.agg #[.string ⟨#[]⟩, .bool false, .int .i64 0, .int .i64 0]), 4, 40) := by kernel_rfl
theorem made_own {w : World} {base g n size : Nat} {e : TypeId} {cs : Array Value} (hg : w.heap.size = g) (hb : base ≤ g) (hn : n ≤ maxLen) (hc : cs.size = n * size) : (w.alloc (.cells cs e)).ownsRow base e size (.slice (some ⟨g, 0, none⟩) 0 n) 0 [] :=
  ⟨by simp, .inr ⟨g, n, cs, rfl, hb, blk_new hg, Nat.zero_le _, hn, hc, by simp⟩⟩

set_option maxRecDepth 100000 in
set_option maxHeartbeats 8000000 in
theorem changes_any (a M N : Nat) (f : Am) (w : World) (h : AmAt w a M f N) (hN : N ≤ 100000) :
    Calls Tryz.prog 14 #[.pointer (some ⟨a, 0, none⟩)] w fun e w' => (∃ v l, e = .returned v ∧ Own chL 4 41 w.heap.size w' v l ∧ Canon f l ∧ l.length = N) ∧ Below w.heap.size w w' := by
  obtain ⟨inf0, hi, jz0, jz1, jz2⟩ := info_parts infoCh
  obtain ⟨MC, hMC, hmk⟩ : ∃ MC : Array Value, MC.size = N * 4 ∧ ∀ w : World, (Instr.makeSlice 23 (.int .i64 0) (.int .i64 (N : Int))).run Tryz.prog w = .ok (.slice (some ⟨w.heap.size, 0, none⟩) 0 N) (w.alloc (.cells MC 41)) := by
    refine ⟨madeCells (Value.agg #[.string ⟨#[]⟩, .bool false, .int .i64 0, .int .i64 0]).cells (N * inf0.size), by rw [size_madeCells, jz1], fun w => ?_⟩
    have h := run_make (P := Tryz.prog) (w := w) 23 41 inf0 _ Tryz.underlying23 hi jz0 .i64 .i64 0 (N : Int) (Int.le_refl _) (by omega) (by rw [jz2]; omega) (by omega)
    simpa using h
  have HH := Lib.hid h
  obtain ⟨D, hown, hr, hz⟩ := h.own
  have BX := Lib.hid h.box
  have cB := cellH BX
  have HR := Lib.hid hr
  have HO := Lib.hid hown
  clear h hr
  go_enter Tryz.func14, Tryz.ntmps14
  go_wp2_with (at_len; refine wpList_len_own _ rfl _ 79 rfl 9 77 Tryz.underlying79 RV M N D rfl hown ?_; rw [hz])
  clear hown
  have hb1 : Below w.heap.size w (w.alloc (.cells MC 41)) := by (repeat' (first | with_reducible exact Below.refl _ _ | with_reducible assumption | with_reducible refine Below.drew ?_ | with_reducible refine below_drewN ?_ _ | with_reducible refine Below.setCell ?_ ?_ _ | with_reducible refine Below.alloc ?_ ?_ _ | omega | (simp; done) | (simp; omega)))
  have HO1 : Hid (Own chL 4 41 w.heap.size (w.alloc (.cells MC 41)) (.slice (some ⟨w.heap.size, 0, none⟩) 0 N) []) := Lib.hid (made_own rfl (Nat.le_refl _) (by unfold maxLen; omega) hMC)
  refine (names_any a M N f _ (HH.out.step hb1) hN).mono ?_
  rintro e w2 ⟨⟨A2, c2, ks, rfl, hsk, hkl, hr2, hfar⟩, hb2⟩
  have hw2 : Below w.heap.size w w2 := stepH hb1 hb2
  have HS := Lib.hid hsk
  have HR2 := Lib.hid hr2
  have HFA := Lib.hid hfar
  have HO2 := Lib.hid (HO1.out.below hb2)
  clear hsk hfar hr2 hmk HO1 hb2 cB
  go_wp2_with fail
  go_loopw [3, 15] (fun u i wr => ∃ (k : Nat) (L : List Ch), k ≤ N ∧ i = .int .i64 k ∧ Hid (Own chL 4 41 w.heap.size wr u L) ∧ Hid (L.map nmb = ks.take k) ∧ Hid (∀ c ∈ L, f (nmb c) = some c) ∧ L.length = k ∧ OnlyL [w.heap.size] w2 wr ∧ Below w.heap.size w wr ∧ Hid (∀ g, u.ownBlock = some g → g = w.heap.size ∨ w2.heap.size ≤ g)) (fun _ i _ => N - (intOf i).toNat)
  case atStart => exact ⟨0, [], Nat.zero_le _, rfl, HO2, Lib.hid rfl, Lib.hid (fun c h => by simp at h), rfl, OnlyL.refl _ _, hw2, Lib.hid (fun g hg => .inl (by simp [Value.ownBlock] at hg; omega))⟩
  case round =>
    obtain ⟨k, L, hk, rfl, HROW, HMAP, HAL, hLk, hw3, hwr, HBK⟩ := hrel
    have z3 := hw3.size
    have z2 := hw2.size
    have z4 := hwr.size
    by_cases hlt : k < N
    · obtain ⟨x, hx⟩ : ∃ x, ks[k]? = some x := ⟨ks[k], List.getElem?_eq_getElem (by omega)⟩
      have hsome := (HS.out.mem x).1 (List.mem_of_getElem? hx)
      obtain ⟨c, hc⟩ := Option.isSome_iff_exists.1 hsome
      obtain ⟨hnx, hnm, gb, hbx, hrunF⟩ := HR.out.find hc
      have HX := Lib.hid hx
      have HC := Lib.hid hc
      obtain ⟨g, off, rfl, hg, hcc⟩ := HR2.out k x hx
      have c0 : wr.cell? ⟨g, off + k, none⟩ = some (.string c.name) := by
        have hne : g ≠ w.heap.size := fun e => by have := HFA.out _ rfl; simp at this; omega
        have := (World.cell?_of_block (w := w2) (w' := wr) (a := ⟨g, off + k * 1 + 0, none⟩) (hw3.block g hg (by simpa using hne))).trans (hcc 0 _ rfl)
        rw [← hnx, show Proofs.encStr (nmb c) = .string c.name by simp [Proofs.encStr, nmb]] at this
        simpa using this
      have HOr := Lib.hid (own_step HO.out hwr)
      have HRW := Lib.hid HROW.out
      have Br := keepH hwr BX.out
      have cBr := cellH Br
      obtain ⟨lBr, lBr1, lBr2⟩ := ltH Br
      have hlt2 : (k : Int) < (N : Int) := by omega
      have hrunK := (hrunF wr N M HOr.out).2
      unfold enV at hrunK
      have hfd : ∀ W : World, (Instr.field 77 (.agg #[.string c.name, .bool c.clear, .int .i64 c.n, .int .i64 c.d, .func (.func (doF c)) #[] #[.pointer (some ⟨gb, 0, none⟩)]]) 0).run Tryz.prog W = .ok (.agg #[.string c.name, .bool c.clear, .int .i64 c.n, .int .i64 c.d]) W := fun _ => by kernel_rfl
      clear hx hc hbx hrunF hsome hcc hg
      go_wp2_with (first
        | (at_lookup; refine wpList_lookup_is rfl _ _ _ _ rfl _ _ _ rfl rfl hrunK ?_)
        | (at_builtin; go_must (refine wpList_append_lies _ rfl (.tmp 19) (.tmp 27) 23 rfl w.heap.size 41 inf0 _ 4 40 Tryz.underlying23 hi jz0 jz1 jz2 rfl (by decide) _ L.length _ rfl (own_below HRW.out (by (repeat' (first | with_reducible exact Below.refl _ _ | with_reducible assumption | with_reducible refine Below.drew ?_ | with_reducible refine below_drewN ?_ _ | with_reducible refine Below.setCell ?_ ?_ _ | with_reducible refine Below.alloc ?_ ?_ _ | omega | (simp; done) | (simp; omega))))) ⟨wr.heap.size, 0, none⟩ 1 1 [.string c.name, .bool c.clear, .int .i64 c.n, .int .i64 c.d] rfl rfl (World.news_of_block (cs := #[.string c.name, .bool c.clear, .int .i64 c.n, .int .i64 c.d]) (blk_new rfl)) (by simp [Value.oneCell']) (by decide) (by unfold maxLen; omega) (by omega) (by simp; omega) _ rfl ?_); intro g9 c9 w9 hown9 hgrow9 hat9 hlt9))
      go_roundw
      case rel =>
        refine ⟨k + 1, L ++ [c], by omega, by go_num, Lib.hid (by have q := Own.snoc hown9 rfl rfl; rw [hLk] at q; exact q), Lib.hid (by rw [List.map_append, HMAP.out, take_snoc HX.out]; simp [hnx]), Lib.hid (fun q hq => ?_), by simp; omega, ?_, ?_, Lib.hid (fun g hg => ?_)⟩
        · rcases List.mem_append.1 hq with hq | hq
          · exact HAL.out q hq
          · simp at hq; subst hq; rw [hnx]; exact HC.out
        · refine ⟨hgrow9.os.trans hw3.os, hgrow9.tape.trans hw3.tape, hgrow9.output.trans hw3.output, by have := hgrow9.size; simp at this; omega, fun i hi hn => ?_⟩
          have e1 := hgrow9.block i (by simp; omega) (fun e => by
            rcases HBK.out i e.symm with h | h
            · exact hn (by simp [h])
            · omega)
          exact e1.trans ((Below.heap_alloc _ _ i (by omega)).trans (hw3.block i hi hn))
        · exact Below.grown (Below.alloc hwr (by omega) _) hgrow9 (by simp; omega) (fun g hg => by
            have := HRW.out.lt g hg
            omega)
        · rcases hat9 with h | h
          · exact HBK.out g (Eq.trans h (by simpa [Value.ownBlock] using hg))
          · simp [Value.ownBlock] at hg; simp at h; omega
      case measure => simp [intOf] <;> omega
    · obtain rfl : k = N := by omega
      have hlt2 : ¬ (k : Int) < (k : Int) := by omega
      go_wp2_with fail
      go_ret
      refine ⟨⟨_, rfl, L, HROW.out, ⟨?_, HAL.out⟩, hLk⟩, hwr⟩
      rw [HMAP.out, List.take_of_length_le (by omega)]
      exact HS.out
end Go.Proofs.YtmoeoomlggjaaaaGreatDoor
