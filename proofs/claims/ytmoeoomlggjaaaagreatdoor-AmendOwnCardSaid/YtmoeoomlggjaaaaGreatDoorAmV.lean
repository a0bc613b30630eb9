/- Apply: the walk. -/
import Derived.Test.YtmoeoomlggjaaaaGreatDoorAmX
namespace Go.Proofs.YtmoeoomlggjaaaaGreatDoor
open Go.RowKit Go.Maps

set_option maxRecDepth 100000 in
set_option maxHeartbeats 4000000 in
theorem apply_good (a M N : Nat) (g : Am) (l : List It) (A : Option Addr) (cp : Nat) (E : Nat → Addr) (m : Int) (w : World) (h : AmAt w a M g N) (hN : N ≤ 50000) (hl : RowAt itL 3 w w.heap.size A l) (hI : ∀ x ∈ l, InI x) (hE : Env LA E w) (hm : w.cell? ⟨4, 0, none⟩ = some (.int .i64 m)) (hA : A = none → cp = 0) (hf : faultI l = none) (h5 : l.length ≤ 500) (hok : okA g) :
    Calls Tryz.prog 11 #[.pointer (some ⟨a, 0, none⟩), .slice A l.length cp] w fun e w' => ApplyR E (app (inF l) g) w.heap.size e w' ∧ Below w.heap.size w w' := by
  have hmm := @run_makeMap Tryz.prog
  have hsf : ∀ (a : Addr) (fn : Fn) (x y : Array Value) (w : World), (store a (.func fn x y)).run Tryz.prog w = stored Tryz.prog w a (.func fn x y) .plain := fun a fn x y w => run_store _ w a _ _ rfl
  have HOKS : Hid (okS (app (inF l) g)) := Lib.hid (okS_app (okS_in hf) hok)
  have HIN := Lib.hid (inputs_any l A cp E m w hl hI hE hm hA)
  have HF := Lib.hid hf
  have HH := Lib.hid h
  have HE := Lib.hid hE
  clear hl hI hE hm hA hf h hok
  go_enter Tryz.func11, Tryz.ntmps11
  go_wp2_with fail
  refine HIN.out.mono ?_
  rintro e w1 ⟨⟨h⟩, hb1⟩
  rcases h with ⟨g', h1, _⟩ | ⟨_, v, rs, rfl, hors, hperm, hpw⟩
  · rw [HF.out] at h1; cases h1
  obtain ⟨A1, c1, rfl, _, _, hr1⟩ := Own.rows (fun x _ => itL_len x) hors
  have HR1 := Lib.hid hr1
  have HP := Lib.hid hperm
  have HIF : Hid (inF rs = inF l) := Lib.hid (inF_perm hperm (faultI_none HF.out).2.2)
  have HPW := Lib.hid hpw
  have HLN : Hid (rs.length ≤ 500) := Lib.hid (by rw [hperm.length_eq]; exact h5)
  have hrl := HLN.out
  have z1 := hb1.size
  clear hors hr1 hperm hpw
  go_wp2_with fail
  have HO0 : Hid ((w1.alloc (.map #[] 0)).ownsMap Tryz.prog 9 RV w1.heap.size 0 (.map [])) := Lib.hid (World.ownsMap_made w1 Tryz.prog 9 RV)
  have HB0 : Hid (Below w1.heap.size w1 (w1.alloc (.map #[] 0))) := Lib.hid (by (repeat' (first | with_reducible exact Below.refl _ _ | with_reducible assumption | with_reducible refine Below.drew ?_ | with_reducible refine below_drewN ?_ _ | with_reducible refine Below.setCell ?_ ?_ _ | with_reducible refine Below.alloc ?_ ?_ _ | omega | (simp; done) | (simp; omega))))
  go_loopw [26] (fun i wr => ∃ (k : Nat), k ≤ rs.length ∧ i = .int .i64 k ∧ Hid (∃ D, wr.ownsMap Tryz.prog 9 RV w1.heap.size k D ∧ ReadF D (inF (rs.take k))) ∧ Below w1.heap.size w1 wr) (fun i _ => rs.length - (intOf i).toNat)
  case atStart => exact ⟨0, Nat.zero_le _, rfl, Lib.hid ⟨.map [], HO0.out, ReadF.nil⟩, HB0.out⟩
  case round =>
    clear HO0 HB0
    obtain ⟨k, hk, rfl, HD, hwr⟩ := hrel
    have z4 := hwr.size
    have hww : Below w.heap.size w wr := stepH hb1 hwr
    by_cases hlt : k < rs.length
    · obtain ⟨x, hx⟩ : ∃ x, rs[k]? = some x := ⟨rs[k], List.getElem?_eq_getElem hlt⟩
      obtain ⟨g1, o1, rfl, _, p0, p1, p2⟩ := cellsI (row_step HR1.out hwr) hx
      have HX := Lib.hid hx
      have hlt2 : (k : Int) < (rs.length : Int) := by omega
      obtain ⟨D, hD1, hD2⟩ := HD.out
      have HO := Lib.hid hD1
      have HRF := Lib.hid hD2
      have hkey : keyOf Tryz.prog 9 (.string x.name) = some (keyS x.name) := by
        have hin := ((faultI_none HF.out).2.1 x (HP.out.mem_iff.1 (List.mem_of_getElem? hx))).1
        have := inB_size hin
        exact keyS_of (by unfold maxLen; omega)
      clear hx hD1 hD2 HD
      go_wp2_with (at_mapUpdate; refine wpList_mapUpdate_own _ rfl _ _ _ 83 rfl 9 39 lawS Tryz.underlying83 RV w1.heap.size k D rfl (HO.out.alloc _) (by unfold maxLen; omega) _ _ (keyS x.name) rfl rfl hkey (.held (frI (x.n, x.d))) [] rfl ?_; intro w5 hown5 hg5)
      go_roundw
      case rel => exact ⟨k + 1, by omega, by go_num, Lib.hid ⟨_, hown5, by rw [inF_snoc HX.out]; exact HRF.out.set x.name (x.n, x.d)⟩, Below.grown (Below.alloc hwr (by omega) _) hg5 (by simp; omega) (fun g hg => by injection hg with hg; omega)⟩
      case measure => simp [intOf] <;> omega
    · obtain rfl : k = rs.length := by omega
      obtain ⟨wf, hwf⟩ : ∃ x, x = wr := ⟨_, rfl⟩
      subst hwf
      have hlt2 : ¬ (rs.length : Int) < (rs.length : Int) := by omega
      have HD0 : Hid (∃ D, wf.ownsMap Tryz.prog 9 RV w1.heap.size rs.length D ∧ ReadF D (inF rs)) := Lib.hid (by have := HD.out; rwa [List.take_length] at this)
      have HLF : Hid (w1.heap.size < wf.heap.size) := Lib.hid (by obtain ⟨D, h1, _⟩ := HD0.out; exact h1.lt)
      have HAr := Lib.hid (HH.out.step hww)
      have BX := Lib.hid HAr.out.box
      have cB := cellH BX
      obtain ⟨D2, hD2, hR2, hz2⟩ := HH.out.own
      have HO2 := Lib.hid (own_step hD2 hww)
      have HR2 := Lib.hid hR2
      have lM := HH.out.lt.2
      clear hD2 hR2 HD
      go_wp2_with (at_range; refine wpList_range_own _ rfl _ 79 rfl 9 77 lawS Tryz.underlying79 RV M N D2 rfl HO2.out ?_; intro w3 hrg3 hg3 hs3)
      have hb3 : Below w.heap.size w w3 := Below.grown hww hg3 (by have := hww.size; omega) (fun g hg => by cases hg)
      have HRG3 := Lib.hid hrg3
      have HD3 : Hid (∃ n D, w3.ownsMap Tryz.prog 9 RV w1.heap.size n D ∧ ReadF D (inF rs) ∧ n ≤ rs.length) := Lib.hid (by
        obtain ⟨D, h1, h2⟩ := HD0.out
        exact ⟨_, D, h1.kept hg3 (by simp), h2, Nat.le_refl _⟩)
      clear hrg3 hg3

      go_loopw [41] (fun _ wq => ∃ (left : Lit → Bool) (cnt n' : Nat), Hid (wq.ranges Tryz.prog 9 RV M wf.heap.size N D2 left cnt) ∧ Hid (∃ D, wq.ownsMap Tryz.prog 9 RV w1.heap.size n' D ∧ ReadF D (appL (inF rs) g left)) ∧ n' + cnt ≤ rs.length + N ∧ Below w.heap.size w wq) (fun _ wq => wq.rangeLeft M wf.heap.size)
      case atStart =>
        obtain ⟨n0, D, e1, e2, e3⟩ := HD3.out
        exact ⟨_, _, n0, HRG3, Lib.hid ⟨D, e1, by rw [appL_start HR2.out]; exact e2⟩, by omega, hb3⟩
      case round =>
        clear HRG3 HD3
        obtain ⟨left, cnt, n', HRG, HD, hcn, hb⟩ := hrel
        have zr := hb.size
        go_wp2_with (at_next; refine wpList_next_am (w0 := w) rfl _ rfl M _ N D2 left cnt g rfl HRG.out HR2.out ?_ ?_)
        · intro hlf
          obtain ⟨D, e1, e2⟩ := HD.out
          rw [appL_done hlf, HIF.out] at e2
          obtain ⟨it, hit, hil⟩ := RF_canon e1 e2
          have HIT := Lib.hid hit
          have HO3 := Lib.hid e1
          have HR3 := Lib.hid e2
          have hsz := e1.size_le
          obtain ⟨N6, hN6⟩ : ∃ n, it.length = n := ⟨_, rfl⟩
          rw [hN6] at hil
          replace hil := hil.symm
          have l1 := e1.lt
          have HLN6 := Lib.hid hN6
          clear e1 e2 HD HRG hlf hit hN6
          by_cases h6 : N6 ≤ 500
          · have e6 : decide ((500 : Int) < (N6 : Int)) = false := decide_eq_false (by omega)
            obtain ⟨inf0, hi, jz0, jz1, jz2⟩ := info_parts infoIt
            obtain ⟨MC, hMC, hmk⟩ : ∃ MC : Array Value, MC.size = N6 * 3 ∧ ∀ w : World, (Instr.makeSlice 22 (.int .i64 0) (.int .i64 (N6 : Int))).run Tryz.prog w = .ok (.slice (some ⟨w.heap.size, 0, none⟩) 0 N6) (w.alloc (.cells MC 53)) := by
              refine ⟨madeCells (Value.agg #[.string ⟨#[]⟩, .int .i64 0, .int .i64 0]).cells (N6 * inf0.size), by rw [size_madeCells, jz1], fun w => ?_⟩
              have h := run_make (P := Tryz.prog) (w := w) 22 53 inf0 _ Tryz.underlying22 hi jz0 .i64 .i64 0 (N6 : Int) (Int.le_refl _) (by omega) (by rw [jz2]; omega) (by omega)
              simpa using h
            obtain ⟨we, hwe⟩ : ∃ x, x = wr := ⟨_, rfl⟩
            subst hwe
            have HK := Lib.hid (fun mb W => callsIn_wide.1 (Tryz.maps_Keys_41 mb W))
            have hO4 : (we.alloc (.cells MC 53)).ownsMap Tryz.prog 9 RV w1.heap.size n' D := HO3.out.alloc _
            have HSO := Lib.hid (callsIn_wide.1 (Tryz.slices_Sorted_keys_40_41 w1.heap.size n' D RV _ hO4 (by rw [hil]; unfold maxLen; omega) (by rw [hil]; omega)))
            have hks := keys_size HO3.out
            have HSK := Lib.hid (fun (ss : List (List UInt8)) (hp : ss.Perm (strKeys D)) => (RF_keys HO3.out HR3.out hp).unique HIT.out.keys)
            have HO1 : Hid (Own itL 3 53 we.heap.size (we.alloc (.cells MC 53)) (.slice (some ⟨we.heap.size, 0, none⟩) 0 N6) []) := Lib.hid (made_own rfl (Nat.le_refl _) (by unfold maxLen; omega) hMC)
            rw [show (we.alloc (.cells MC 53)).heap.size = we.heap.size + 1 by simp] at HSO
            clear hO4 hMC
            go_wp2_with (at_len; refine wpList_len_own _ rfl _ 83 rfl 9 39 Tryz.underlying83 RV w1.heap.size n' D rfl HO3.out ?_; rw [hil])
            refine (HK.out _ _).mono ?_
            rintro e w4 ⟨rfl, rfl⟩
            go_wp2_with fail
            refine HSO.out.mono ?_
            rintro e w5 ⟨v5, ss, rfl, hperm, hrow, _, hb5⟩
            have hHS := HSK.out ss hperm
            have hlen : ss.length = N6 := by rw [hperm.length_eq, hks, hil]
            rw [hHS] at hrow
            have hl2 : (it.map itb).length = N6 := by rw [List.length_map, HLN6.out]
            obtain ⟨A2, c2, rfl, hr2, _, hfar⟩ := own_line (l := it.map itb) (enc := strE) (size := 1) (e := 9) (base := ((we.alloc (.cells MC 53)).alloc (.cells #[.map (some w1.heap.size)] 83)).heap.size) (w := w5) (v := v5) (fun x _ => rfl) (by unfold Own strE; rw [hl2, flat1, ← hlen]; exact hrow)
            have hE5 : Below we.heap.size we w5 := stepH (by (repeat' (first | with_reducible exact Below.refl _ _ | with_reducible assumption | with_reducible refine Below.drew ?_ | with_reducible refine below_drewN ?_ _ | with_reducible refine Below.setCell ?_ ?_ _ | with_reducible refine Below.alloc ?_ ?_ _ | omega | (simp; done) | (simp; omega)))) hb5
            have HR2 := Lib.hid hr2
            have HFA : Hid (∀ q, A2 = some q → we.heap.size + 1 ≤ q.block) := Lib.hid (fun q hq => by have := hfar q hq; simp at this; omega)
            have HO2 := Lib.hid ((own_below HO1.out (w' := w5) (stepH (by (repeat' (first | with_reducible exact Below.refl _ _ | with_reducible assumption | with_reducible refine Below.drew ?_ | with_reducible refine below_drewN ?_ _ | with_reducible refine Below.setCell ?_ ?_ _ | with_reducible refine Below.alloc ?_ ?_ _ | omega | (simp; done) | (simp; omega)))) hb5)))
            rw [hl2]
            clear hHS hlen hrow hr2 hfar hb5 hmk HO1 HK HSO HSK hperm
            go_wp2_with fail
            go_loopw [12, 60] (fun u i wr => ∃ (k : Nat) (L : List It), k ≤ N6 ∧ i = .int .i64 k ∧ Hid (Own itL 3 53 we.heap.size wr u L) ∧ Hid (L = it.take k) ∧ L.length = k ∧ OnlyL [we.heap.size] w5 wr ∧ Below we.heap.size we wr ∧ Hid (∀ g, u.ownBlock = some g → g = we.heap.size ∨ w5.heap.size ≤ g)) (fun _ i _ => N6 - (intOf i).toNat)
            case atStart => exact ⟨0, [], Nat.zero_le _, rfl, HO2, Lib.hid rfl, rfl, OnlyL.refl _ _, hE5, Lib.hid (fun g hg => .inl (by simp [Value.ownBlock] at hg; omega))⟩
            case round =>
              obtain ⟨k, L, hk, rfl, HROW, HMAP, hLk, hw6, hwe, HBK⟩ := hrel
              have z6 := hw6.size
              have z7 := hwe.size
              have z8 := hE5.size
              have z9 := hb.size
              by_cases hlt3 : k < N6
              · obtain ⟨x, hx⟩ : ∃ x, it[k]? = some x := ⟨it[k]'(by rw [HLN6.out]; exact hlt3), List.getElem?_eq_getElem _⟩
                have hst := HIT.out.at' x (List.mem_of_getElem? hx)
                have hsz2 := inB_size (HOKS.out _ _ hst).1
                rw [show mkN (itb x) = x.name from mkN_name _] at hsz2
                have hrunK := HR3.out.find (x := x) (by unfold maxLen; omega) hst wr n' w1.heap.size (own_step HO3.out hwe)
                have HX := Lib.hid hx
                obtain ⟨g, off, rfl, hg, hcc⟩ := HR2.out k (itb x) (by rw [List.getElem?_map, hx]; rfl)
                have c0 : wr.cell? ⟨g, off + k, none⟩ = some (.string x.name) := by
                  have hne : g ≠ we.heap.size := fun e => by have := HFA.out _ rfl; simp at this; omega
                  have := (World.cell?_of_block (w := w5) (w' := wr) (a := ⟨g, off + k * 1 + 0, none⟩) (hw6.block g hg (by simpa using hne))).trans (hcc 0 _ rfl)
                  rw [show Proofs.encStr (itb x) = .string x.name by simp [Proofs.encStr, itb]] at this
                  simpa using this
                have HRW := Lib.hid HROW.out
                have hlt2 : (k : Int) < (N6 : Int) := by omega
                clear hx hst hcc hg
                go_wp2_with (first
                  | (at_lookup; refine wpList_lookup_is rfl _ _ _ _ rfl _ _ _ rfl rfl hrunK ?_)
                  | (at_builtin; go_must (refine wpList_append_lies _ rfl (.tmp 64) (.tmp 70) 22 rfl we.heap.size 53 inf0 _ 3 32 Tryz.underlying22 hi jz0 jz1 jz2 rfl (by decide) _ L.length _ rfl (own_below HRW.out (by (repeat' (first | with_reducible exact Below.refl _ _ | with_reducible assumption | with_reducible refine Below.drew ?_ | with_reducible refine below_drewN ?_ _ | with_reducible refine Below.setCell ?_ ?_ _ | with_reducible refine Below.alloc ?_ ?_ _ | omega | (simp; done) | (simp; omega))))) ⟨wr.heap.size, 0, none⟩ 1 1 [.string x.name, .int .i64 x.n, .int .i64 x.d] rfl rfl (World.news_of_block (cs := #[.string x.name, .int .i64 x.n, .int .i64 x.d]) (blk_new rfl)) (by simp [Value.oneCell']) (by decide) (by unfold maxLen; omega) (by omega) (by simp; omega) _ rfl ?_); intro g9 c9 w9 hown9 hgrow9 hat9 hlt9))
                go_roundw
                case rel =>
                  refine ⟨k + 1, L ++ [x], by omega, by go_num, Lib.hid (by have q := Own.snoc hown9 rfl rfl; rw [hLk] at q; exact q), Lib.hid (by rw [HMAP.out, take_snoc HX.out]), by simp; omega, ?_, ?_, Lib.hid (fun g hg => ?_)⟩
                  · refine ⟨hgrow9.os.trans hw6.os, hgrow9.tape.trans hw6.tape, hgrow9.output.trans hw6.output, by have := hgrow9.size; simp at this; omega, fun i hi hn => ?_⟩
                    have e1 := hgrow9.block i (by simp; omega) (fun e => by
                      rcases HBK.out i e.symm with h | h
                      · exact hn (by simp [h])
                      · omega)
                    exact e1.trans ((Below.heap_alloc _ _ i (by omega)).trans (hw6.block i hi hn))
                  · exact Below.grown (Below.alloc hwe (by omega) _) hgrow9 (by simp; omega) (fun g hg => by
                      have := HRW.out.lt g hg
                      omega)
                  · rcases hat9 with h | h
                    · exact HBK.out g (Eq.trans h (by simpa [Value.ownBlock] using hg))
                    · simp [Value.ownBlock] at hg; simp at h; omega
                case measure => simp [intOf] <;> omega
              · obtain rfl : k = N6 := by omega
                have hlt2 : ¬ (k : Int) < (k : Int) := by omega
                have hLi : L = it := by rw [HMAP.out, List.take_of_length_le (by rw [HLN6.out]; exact Nat.le_refl _)]
                have hww2 := hb.trans (hwe.mono z9)
                have HRES : Hid (∃ rs, CanonI (app (inF l) g) rs ∧ rs.length ≤ 500 ∧ Own itL 3 53 w.heap.size wr _ rs) := Lib.hid ⟨it, HIT.out, by rw [HLN6.out]; exact h6, by rw [← hLi]; exact own_mono HROW.out z9⟩
                clear hLi
                go_wp2_with fail
                go_ret2
                obtain ⟨r1, q1, q2, q3⟩ := HRES.out
                exact ⟨⟨r1, q1, .inl ⟨q2, _, rfl, q3⟩⟩, hww2⟩
          · have e6 : decide ((500 : Int) < (N6 : Int)) = true := decide_eq_true (by omega)
            have cE := (HE.out.below hb).cell 1 (by decide)
            have HR : Hid (ApplyR E (app (inF l) g) w.heap.size (.returned (.tuple #[.slice none 0 0, errA E (some 1)])) wr) := Lib.hid ⟨it, HIT.out, .inr ⟨by rw [HLN6.out]; omega, rfl⟩⟩
            rw [show errA E (some 1) = .iface 184 (.pointer (some (E 1))) from rfl] at HR
            go_wp2_with (at_len; refine wpList_len_own _ rfl _ 83 rfl 9 39 Tryz.underlying83 RV w1.heap.size n' D rfl HO3.out ?_; rw [hil])
            go_region_held3 (fun w' => w'.cell? ⟨1, 0, none⟩ = some (.iface 184 (.pointer (some (E 1))))) (first | with_reducible exact cE | go_keep)
              (fail)
            go_wp2_with fail
            go_ret2
            refine ⟨?_, by (repeat' (first | with_reducible exact Below.refl _ _ | with_reducible assumption | with_reducible refine Below.drew ?_ | with_reducible refine below_drewN ?_ _ | with_reducible refine Below.setCell ?_ ?_ _ | with_reducible refine Below.alloc ?_ ?_ _ | omega | (simp; done) | (simp; omega)))⟩
            obtain ⟨r1, q1, q2⟩ := HR.out.ex
            refine ⟨r1, q1, ?_⟩
            rcases q2 with ⟨_, v, q3, _⟩ | ⟨q3, q4⟩
            · cases q3
            · exact .inr ⟨q3, q4⟩
        · intro c gb w2 cnt2 hc hcs hbx hlk hrg2 hlt hg2 hs2 hen
          obtain ⟨D, hD1, hD2⟩ := HD.out
          have HRG2 := Lib.hid hrg2
          have HK2 := Lib.hid (hD1.kept hg2 (fun e => by injection e with e; have := HLF.out; omega))
          have hb2 : Below w.heap.size w w2 := Below.grown hb hg2 (by omega) (fun g hg => by injection hg with hg; have := hww.size; omega)
          have HBX := Lib.hid hbx
          have HDR := Lib.hid hD2
          have HC := Lib.hid hc
          have gf : ∀ args w, (callFunc (doF c) args).run Tryz.prog w = .ok (.enter (doF c) args) w := by
            unfold doF
            cases c.clear
            · exact enters_of Tryz.func65 (by kernel_rfl) rfl
            · exact enters_of Tryz.func64 (by kernel_rfl) rfl
          have HDO := Lib.hid (fun (W : World) (hW : Below w.heap.size w W) (ho : W.ownsMap Tryz.prog 9 RV w1.heap.size n' D) => do_any c gb w1.heap.size n' D _ W ((hW.block gb (Array.getElem?_eq_some_iff.1 HBX.out).1).trans HBX.out) hcs ho HDR.out (by unfold maxLen; omega))
          clear hrg2 hg2 hc hbx hlk hD1 hD2 HD
          unfold enV at *
          go_wp2_with (go_at_fn gf)
          refine (HDO.out _ (by (repeat' (first | with_reducible exact Below.refl _ _ | with_reducible assumption | with_reducible refine Below.drew ?_ | with_reducible refine below_drewN ?_ _ | with_reducible refine Below.setCell ?_ ?_ _ | with_reducible refine Below.alloc ?_ ?_ _ | omega | (simp; done) | (simp; omega)))) (HK2.out.alloc _)).mono ?_
          rintro e w5 ⟨rfl, ⟨D', ho5, hr5⟩, hg5⟩
          go_wp2_with fail
          have e0 : (w2.alloc (.cells #[.string c.name, .bool c.clear, .int .i64 c.n, .int .i64 c.d, .func (.func (doF c)) #[] #[.pointer (some ⟨gb, 0, none⟩)]] 77)).heap.size = wr.heap.size + 1 := by simp [hs2]
          have hrg5 := (HRG2.out.alloc (.cells #[.string c.name, .bool c.clear, .int .i64 c.n, .int .i64 c.d, .func (.func (doF c)) #[] #[.pointer (some ⟨gb, 0, none⟩)]] 77)).kept hg5 (fun e => by injection e with e; omega) (fun e => by injection e with e; have := HLF.out; omega)
          have hb5 : Below w.heap.size w w5 := Below.grown (Below.alloc hb2 (by have := hb2.size; omega) _) hg5 (by have := hb2.size; simp; omega) (fun g hg => by injection hg with hg; omega)
          go_roundw
          case rel =>
            exact ⟨_, cnt2, n' + 1, Lib.hid hrg5, Lib.hid ⟨D', ho5, by rw [← appL_step HC.out]; exact hr5⟩, by omega, hb5⟩
          case measure =>
            have e1 := hrg5.left_eq
            have e2 := HRG.out.left_eq
            rw [e1, e2]; exact hlt
theorem apply_any (a M N : Nat) (g : Am) (l : List It) (A : Option Addr) (cp : Nat) (E : Nat → Addr) (m : Int) (w : World) (h : AmAt w a M g N) (hN : N ≤ 50000) (hl : RowAt itL 3 w w.heap.size A l) (hI : ∀ x ∈ l, InI x) (hE : Env LA E w) (hm : w.cell? ⟨4, 0, none⟩ = some (.int .i64 m)) (hA : A = none → cp = 0) (hok : okA g) :
    Calls Tryz.prog 11 #[.pointer (some ⟨a, 0, none⟩), .slice A l.length cp] w fun e w' => ((∃ x, faultI l = some x ∧ x ∈ LA ∧ e = .returned (.tuple #[.slice none 0 0, errA E (some x)])) ∨ (faultI l = none ∧ ApplyR E (app (inF l) g) w.heap.size e w')) ∧ Below w.heap.size w w' := by
  cases hf : faultI l with
  | none => exact (apply_good a M N g l A cp E m w h hN hl hI hE hm hA hf (faultI_none hf).1 hok).mono fun e w' q => ⟨.inr ⟨rfl, q.1⟩, q.2⟩
  | some x => exact (apply_bad _ l A cp x E m w hl hI hE hm hA hf).mono fun e w' q => ⟨.inl ⟨x, rfl, faultI_in hf, q.1⟩, q.2⟩
end Go.Proofs.YtmoeoomlggjaaaaGreatDoor
