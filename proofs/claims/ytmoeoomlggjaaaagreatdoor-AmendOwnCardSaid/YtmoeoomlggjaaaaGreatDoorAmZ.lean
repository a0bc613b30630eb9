/- Diff: the walk. -/
import Derived.Test.YtmoeoomlggjaaaaGreatDoorAmY
namespace Go.Proofs.YtmoeoomlggjaaaaGreatDoor
open Go.RowKit Go.Maps

/-- Inputs of inputs: a row by rising names -/
theorem inputs_good (l : List It) (A : Option Addr) (cp : Nat) (E : Nat → Addr) (m : Int) (w : World) (hl : RowAt itL 3 w w.heap.size A l) (hI : ∀ x ∈ l, InI x) (hE : Env LA E w) (hm : w.cell? ⟨4, 0, none⟩ = some (.int .i64 m)) (hA : A = none → cp = 0) (hf : faultI l = none) :
    Calls Tryz.prog 8 #[.slice A l.length cp] w fun e w' => (∃ A1 c1 rs, e = .returned (.tuple #[.slice A1 rs.length c1, .nilIface]) ∧ RowAt itL 3 w' w'.heap.size A1 rs ∧ CanonI (inF l) rs ∧ rs.length = l.length ∧ Own itL 3 53 w.heap.size w' (.slice A1 rs.length c1) rs) ∧ Below w.heap.size w w' := by
  refine (inputs_any l A cp E m w hl hI hE hm hA).mono ?_
  rintro e w1 ⟨⟨h⟩, hb1⟩
  refine ⟨?_, hb1⟩
  rcases h with ⟨g', h1, _⟩ | ⟨_, v, rs, rfl, hors, hperm, hpw⟩
  · rw [hf] at h1; cases h1
  obtain ⟨A1, c1, rfl, _, _, hr1⟩ := Own.rows (fun x _ => itL_len x) hors
  exact ⟨A1, c1, rs, rfl, hr1, canonI_of hperm (faultI_none hf).2.2 hpw, hperm.length_eq, hors⟩
theorem get_in (l : List It) (s : St) (r : Option (Int × Int)) (A : Option Addr) (c : Nat) (nm : ByteArray) (w : World) (h : RowAt itL 3 w w.heap.size A l) (hm : l.length ≤ 100000) (hc : CanonI s l) (hr : s nm.data.toList = r) :
    Calls Tryz.prog 37 #[.slice A l.length c, .string nm] w fun e w' => e = .returned (getV r) ∧ Below w.heap.size w w' := by
  subst hr
  have := get_any l A c nm w h hm
  rwa [getI_inF hc.keys.nodup, hc.inF] at this

set_option maxRecDepth 100000 in
set_option maxHeartbeats 8000000 in
theorem diff_any (l1 l2 : List It) (A1 A2 : Option Addr) (cp1 cp2 : Nat) (E : Nat → Addr) (m : Int) (w : World) (hl1 : RowAt itL 3 w w.heap.size A1 l1) (hl2 : RowAt itL 3 w w.heap.size A2 l2) (hI1 : ∀ x ∈ l1, InI x) (hI2 : ∀ x ∈ l2, InI x) (hE : Env LA E w) (hm : w.cell? ⟨4, 0, none⟩ = some (.int .i64 m)) (hA1 : A1 = none → cp1 = 0) (hA2 : A2 = none → cp2 = 0) (hf1 : faultI l1 = none) (hf2 : faultI l2 = none) (h5 : l1.length + l2.length ≤ 500) :
    Calls Tryz.prog 10 #[.slice A1 l1.length cp1, .slice A2 l2.length cp2] w fun e w' => (∃ a M N, e = .returned (.tuple #[.pointer (some ⟨a, 0, none⟩), .nilIface]) ∧ AmAt w' a M (diffA (inF l1) (inF l2)) N ∧ N ≤ 500 ∧ w.heap.size ≤ a ∧ w.heap.size ≤ M) ∧ Below w.heap.size w w' := by
  have HI1 := Lib.hid (inputs_good l1 A1 cp1 E m w hl1 hI1 hE hm hA1 hf1)
  have HI2 := Lib.hid (fun (W : World) (hW : Below w.heap.size w W) => inputs_good l2 A2 cp2 E m W ((hl2.below hW (Nat.le_refl _)).more hW.size) hI2 (hE.below hW) (cell_at hm hW) hA2 hf2)
  have HF : Hid (∀ x ∈ l1, x.name.size ≤ 64) := Lib.hid (fun x hx => inB_size ((faultI_none hf1).2.1 x hx).1)
  have HF2 : Hid (∀ x ∈ l2, x.name.size ≤ 64) := Lib.hid (fun x hx => inB_size ((faultI_none hf2).2.1 x hx).1)
  have HND : Hid ((l2.map itb).Nodup) := Lib.hid (faultI_none hf2).2.2
  clear hl1 hl2 hI1 hI2 hE hm hA1 hA2 hf1 hf2
  go_enter Tryz.func10, Tryz.ntmps10
  go_wp2_with fail
  refine HI1.out.mono ?_
  rintro e w1 ⟨⟨B1, c1, r1, rfl, hr1, hc1, hn1, _⟩, hb1⟩
  have R1 := Lib.hid hr1
  have C1 := Lib.hid hc1
  have HN1 := Lib.hid hn1
  clear hr1 hc1 hn1 HI1
  go_wp2_with fail
  refine (HI2.out w1 hb1).mono ?_
  rintro e w2 ⟨⟨B2, c2, r2, rfl, hr2, hc2, hn2, _⟩, hb2⟩
  have R2 := Lib.hid hr2
  have C2 := Lib.hid hc2
  have HN2 := Lib.hid hn2
  have R1 := Lib.hid (row_step R1.out hb2)
  have hw2 : Below w.heap.size w w2 := stepH hb1 hb2
  clear hr2 hc2 hn2 HI2 hb2
  go_wp2_with fail
  refine (none_any w2).mono ?_
  rintro e w3 ⟨a, M, rfl, ha, hla, hlm, hb3⟩
  have R2 := Lib.hid (row_step R2.out hb3)
  have R1 := Lib.hid (row_step R1.out hb3)
  have hw3 : Below w.heap.size w w3 := stepH hw2 hb3
  have HA := Lib.hid ha
  have z2 := hw2.size
  have z3 := hb3.size
  have hmp := ha.isMap
  have hl1 : r1.length ≤ 500 := by have := HN1.out; omega
  have hl2 : r2.length ≤ 500 := by have := HN2.out; omega
  have hl3 : r1.length + r2.length ≤ 500 := by have := HN1.out; have := HN2.out; omega
  have hK : ∀ W : World, OnlyL [M] w3 W → Below w.heap.size w W := fun W h => hw3.trans (h.below (Nat.le_trans z2 z3) (fun k hk => by simp at hk; omega))
  have HKK := Lib.hid hK
  clear ha hb3 hK hw3
  go_wp2_with fail
  go_loopw [35] (fun i wr => ∃ k N : Nat, k ≤ r1.length ∧ i = .int .i64 k ∧ N ≤ k ∧ Hid (AmAt wr a M ((r1.take k).foldl (step1 (inF l2)) (fun _ => none)) N) ∧ OnlyL [M] w3 wr) (fun i _ => r1.length - (intOf i).toNat)
  case atStart => exact ⟨0, 0, Nat.zero_le _, rfl, Nat.le_refl _, HA, OnlyL.refl _ _⟩
  case round =>
    obtain ⟨k, N, hk, rfl, hNk, HAM, ho⟩ := hrel
    have z4 := ho.size
    by_cases hlt : k < r1.length
    · have hlt2 : (k : Int) < (r1.length : Int) := by omega
      obtain ⟨x, hx⟩ : ∃ x, r1[k]? = some x := ⟨r1[k], List.getElem?_eq_getElem hlt⟩
      obtain ⟨g, off, rfl, hg, p0, p1, p2⟩ := cellsI (row_only R1.out ho hmp) hx
      have HX := Lib.hid hx
      have R2r := Lib.hid (row_only R2.out ho hmp)
      have hba : Below wr.heap.size wr (wr.alloc (.cells #[.string x.name, .int .i64 x.n, .int .i64 x.d] 53)) := by (repeat' (first | with_reducible exact Below.refl _ _ | with_reducible assumption | with_reducible refine Below.drew ?_ | with_reducible refine below_drewN ?_ _ | with_reducible refine Below.setCell ?_ ?_ _ | with_reducible refine Below.alloc ?_ ?_ _ | omega | (simp; done) | (simp; omega)))
      have BI : Hid ((wr.alloc (.cells #[.string x.name, .int .i64 x.n, .int .i64 x.d] 53)).heap[wr.heap.size]? = some (.cells #[.string x.name, .int .i64 x.n, .int .i64 x.d] 53 (0, 0))) := Lib.hid (blk_new rfl)
      have hsz : x.name.size ≤ maxLen := by
        obtain ⟨y, hy, e⟩ := List.mem_map.1 ((inF_some _).1 ((C1.out.keys.mem _).1 (List.mem_map_of_mem (List.mem_of_getElem? hx))))
        have e2 : y.name = x.name := ba_inj e
        rw [← e2]
        have := HF.out y hy
        unfold maxLen; omega
      clear hx
      cases hv : inF l2 (itb x) with
      | none =>
        have HG := Lib.hid (get_in r2 (inF l2) none B2 c2 x.name _ (row_step R2r.out hba) (by omega) C2.out hv)
        have HV := Lib.hid hv
        clear hv
        go_wp2_with fail
        refine HG.out.mono ?_
        rintro e w4 ⟨rfl, hb4⟩
        have B4 := keepH hb4 BI.out
        have cB4 := cellH B4
        have hr4 : Below wr.heap.size wr w4 := stepH hba hb4
        obtain ⟨lB4, lB41, lB42⟩ := ltH B4
        unfold getV
        go_wp2_with fail
        obtain ⟨u, hu⟩ : ∃ u, w4.alloc (.cells #[.int .i64 0, .int .i64 0] 39) = u := ⟨_, rfl⟩
        have hbu : Below wr.heap.size wr u := by rw [← hu]; (repeat' (first | with_reducible exact Below.refl _ _ | with_reducible assumption | with_reducible refine Below.drew ?_ | with_reducible refine below_drewN ?_ _ | with_reducible refine Below.setCell ?_ ?_ _ | with_reducible refine Below.alloc ?_ ?_ _ | omega | (simp; done) | (simp; omega)))
        have BU : Hid (u.heap[wr.heap.size]? = some (.cells #[.string x.name, .int .i64 x.n, .int .i64 x.d] 53 (0, 0))) := Lib.hid (by rw [← hu]; exact blk_old B4.out)
        have HAU := Lib.hid (HAM.out.step hbu)
        have BX := Lib.hid HAU.out.box
        rw [hu]
        clear hu cB4 B4 BI
        have hbd : Below u.heap.size u u.drew := (Below.refl _ _).drew
        have zu := hbu.size
        have x0 : u.drew.cell? ⟨a, 0, none⟩ = some (.map (some M)) := cellH BX 0
        have x1 := cellH (w := u.drew) BU
        go_region_held3 (fun w' => w'.cell? ⟨a, 0, none⟩ = some (.map (some M)) ∧ ∀ o, w'.cell? ⟨wr.heap.size, o, none⟩ = #[.string x.name, .int .i64 x.n, .int .i64 x.d][o]?) (first | with_reducible exact ⟨x0, x1⟩ | with_reducible exact ⟨d0, d1⟩)
          (first | (go_at_call 38; refine (made_any ⟨x.name, true, 0, 0⟩ u.drew).mono ?_; rintro e w5 ⟨⟨g5, rfl, hbx, hg5⟩, hb5⟩; have hb5' : Below u.heap.size u w5 := stepH hbd hb5; have P5 := keepH hb5' BU.out; have HA5 := Lib.hid (HAU.out.step hb5'); have B5 := Lib.hid HA5.out.box; obtain ⟨w6, hrunU, ⟨N6, hA6, hN6⟩, hg6⟩ := HA5.out.put (c := ⟨x.name, true, 0, 0⟩) hsz hbx (by omega); have hm5 := HA5.out.isMap; have d0 : w6.cell? ⟨a, 0, none⟩ = some (.map (some M)) := cellH (Lib.hid (heap_turn B5.out hg6 hm5)) 0; have d1 := cellH (Lib.hid (heap_turn P5.out hg6 hm5)); have x0 : w5.cell? ⟨a, 0, none⟩ = some (.map (some M)) := cellH B5 0; have x1 := cellH P5; have HA6 := Lib.hid hA6; have HG6 := Lib.hid hg6; have HB5 := Lib.hid hb5'; clear hb5 hA6 hg6 hbx))
        go_wp2_with fail
        go_roundw
        case rel => exact ⟨k + 1, N6, by omega, by go_num, by omega, Lib.hid (by rw [foldl_snoc HX.out]; unfold step1; rw [if_neg (by rw [HV.out]; simp)]; exact HA6.out), ((ho.trans (only_step hbu)).trans (only_step HB5.out)).trans (only_turn HG6.out)⟩
        case measure => simp [intOf] <;> omega
      | some b =>
        obtain ⟨b1, b2⟩ := b
        have HG := Lib.hid (get_in r2 (inF l2) (some (b1, b2)) B2 c2 x.name _ (row_step R2r.out hba) (by omega) C2.out hv)
        have HV := Lib.hid hv
        clear hv
        go_wp2_with fail
        refine HG.out.mono ?_
        rintro e w4 ⟨rfl, hb4⟩
        have hr4 : Below wr.heap.size wr w4 := stepH hba hb4
        have z5 := hr4.size
        unfold getV
        go_wp2_with fail
        go_roundw
        case rel => exact ⟨k + 1, N, by omega, by go_num, by omega, Lib.hid (by rw [foldl_snoc HX.out]; unfold step1; rw [if_pos (by rw [HV.out]; rfl)]; exact HAM.out.step (by (repeat' (first | with_reducible exact Below.refl _ _ | with_reducible assumption | with_reducible refine Below.drew ?_ | with_reducible refine below_drewN ?_ _ | with_reducible refine Below.setCell ?_ ?_ _ | with_reducible refine Below.alloc ?_ ?_ _ | omega | (simp; done) | (simp; omega))))), ho.trans (only_step (by (repeat' (first | with_reducible exact Below.refl _ _ | with_reducible assumption | with_reducible refine Below.drew ?_ | with_reducible refine below_drewN ?_ _ | with_reducible refine Below.setCell ?_ ?_ _ | with_reducible refine Below.alloc ?_ ?_ _ | omega | (simp; done) | (simp; omega)))))⟩
        case measure => simp [intOf] <;> omega
    · obtain rfl : k = r1.length := by omega
      have hlt2 : ¬ (r1.length : Int) < (r1.length : Int) := by omega
      obtain ⟨wf, hwf⟩ : ∃ x, x = wr := ⟨_, rfl⟩
      subst hwf
      obtain ⟨F1, hF1⟩ : ∃ F, r1.foldl (step1 (inF l2)) (fun _ => none) = F := ⟨_, rfl⟩
      have HA1 : Hid (AmAt wf a M F1 N) := Lib.hid (by have := HAM.out; rw [List.take_length, hF1] at this; exact this)
      have HF1 := Lib.hid hF1
      have HO1 := Lib.hid ho
      clear HAM hF1 HA ho
      go_wp2_with fail
      go_loopw [61] (fun i wr => ∃ k N : Nat, k ≤ r2.length ∧ i = .int .i64 k ∧ N ≤ r1.length + k ∧ Hid (AmAt wr a M ((r2.take k).foldl (step2 (inF l1)) F1) N) ∧ OnlyL [M] w3 wr) (fun i _ => r2.length - (intOf i).toNat)
      case atStart => exact ⟨0, N, Nat.zero_le _, rfl, by omega, HA1, HO1.out⟩
      case round =>
        obtain ⟨k, N, hk, rfl, hNk, HAM, ho⟩ := hrel
        have z4 := ho.size
        by_cases hlt : k < r2.length
        · have hlt2 : (k : Int) < (r2.length : Int) := by omega
          obtain ⟨x, hx⟩ : ∃ x, r2[k]? = some x := ⟨r2[k], List.getElem?_eq_getElem hlt⟩
          obtain ⟨g, off, rfl, hg, p0, p1, p2⟩ := cellsI (row_only R2.out ho hmp) hx
          have HX := Lib.hid hx
          have R2r := Lib.hid (row_only R1.out ho hmp)
          have hba : Below wr.heap.size wr (wr.alloc (.cells #[.string x.name, .int .i64 x.n, .int .i64 x.d] 53)) := by (repeat' (first | with_reducible exact Below.refl _ _ | with_reducible assumption | with_reducible refine Below.drew ?_ | with_reducible refine below_drewN ?_ _ | with_reducible refine Below.setCell ?_ ?_ _ | with_reducible refine Below.alloc ?_ ?_ _ | omega | (simp; done) | (simp; omega)))
          have BI : Hid ((wr.alloc (.cells #[.string x.name, .int .i64 x.n, .int .i64 x.d] 53)).heap[wr.heap.size]? = some (.cells #[.string x.name, .int .i64 x.n, .int .i64 x.d] 53 (0, 0))) := Lib.hid (blk_new rfl)
          have hsz : x.name.size ≤ maxLen := by
            obtain ⟨y, hy, e⟩ := List.mem_map.1 ((inF_some _).1 ((C2.out.keys.mem _).1 (List.mem_map_of_mem (List.mem_of_getElem? hx))))
            have e2 : y.name = x.name := ba_inj e
            rw [← e2]
            have := HF2.out y hy
            unfold maxLen; omega
          clear hx
          cases hv : inF l1 (itb x) with
          | none =>
            have HG := Lib.hid (get_in r1 (inF l1) none B1 c1 x.name _ (row_step R2r.out hba) (by omega) C1.out hv)
            have HV := Lib.hid hv
            clear hv
            go_wp2_with fail
            refine HG.out.mono ?_
            rintro e w4 ⟨rfl, hb4⟩
            have B4 := keepH hb4 BI.out
            have cB4 := cellH B4
            have hr4 : Below wr.heap.size wr w4 := stepH hba hb4
            obtain ⟨lB4, lB41, lB42⟩ := ltH B4
            unfold getV
            go_wp2_with fail
            obtain ⟨u, hu⟩ : ∃ u, w4.alloc (.cells #[.int .i64 0, .int .i64 0] 39) = u := ⟨_, rfl⟩
            have hbu : Below wr.heap.size wr u := by rw [← hu]; (repeat' (first | with_reducible exact Below.refl _ _ | with_reducible assumption | with_reducible refine Below.drew ?_ | with_reducible refine below_drewN ?_ _ | with_reducible refine Below.setCell ?_ ?_ _ | with_reducible refine Below.alloc ?_ ?_ _ | omega | (simp; done) | (simp; omega)))
            have BU : Hid (u.heap[wr.heap.size]? = some (.cells #[.string x.name, .int .i64 x.n, .int .i64 x.d] 53 (0, 0))) := Lib.hid (by rw [← hu]; exact blk_old B4.out)
            have HAU := Lib.hid (HAM.out.step hbu)
            have BX := Lib.hid HAU.out.box
            rw [hu]
            clear hu cB4 B4 BI
            have hbd : Below u.heap.size u u.drew := (Below.refl _ _).drew
            have zu := hbu.size
            have x0 : u.drew.cell? ⟨a, 0, none⟩ = some (.map (some M)) := cellH BX 0
            have x1 := cellH (w := u.drew) BU
            go_region_held3 (fun w' => w'.cell? ⟨a, 0, none⟩ = some (.map (some M)) ∧ ∀ o, w'.cell? ⟨wr.heap.size, o, none⟩ = #[.string x.name, .int .i64 x.n, .int .i64 x.d][o]?) (first | with_reducible exact ⟨x0, x1⟩ | with_reducible exact ⟨d0, d1⟩)
              (first | (go_at_call 38; refine (made_any ⟨x.name, false, x.n, x.d⟩ u.drew).mono ?_; rintro e w5 ⟨⟨g5, rfl, hbx, hg5⟩, hb5⟩; have hb5' : Below u.heap.size u w5 := stepH hbd hb5; have P5 := keepH hb5' BU.out; have HA5 := Lib.hid (HAU.out.step hb5'); have B5 := Lib.hid HA5.out.box; obtain ⟨w6, hrunU, ⟨N6, hA6, hN6⟩, hg6⟩ := HA5.out.put (c := ⟨x.name, false, x.n, x.d⟩) hsz hbx (by omega); have hm5 := HA5.out.isMap; have d0 : w6.cell? ⟨a, 0, none⟩ = some (.map (some M)) := cellH (Lib.hid (heap_turn B5.out hg6 hm5)) 0; have d1 := cellH (Lib.hid (heap_turn P5.out hg6 hm5)); have x0 : w5.cell? ⟨a, 0, none⟩ = some (.map (some M)) := cellH B5 0; have x1 := cellH P5; have HA6 := Lib.hid hA6; have HG6 := Lib.hid hg6; have HB5 := Lib.hid hb5'; clear hb5 hA6 hg6 hbx))
            go_wp2_with fail
            go_roundw
            case rel => exact ⟨k + 1, N6, by omega, by go_num, by omega, Lib.hid (by rw [foldl_snoc HX.out]; unfold step2; rw [if_neg (by rw [HV.out]; simp)]; exact HA6.out), ((ho.trans (only_step hbu)).trans (only_step HB5.out)).trans (only_turn HG6.out)⟩
            case measure => simp [intOf] <;> omega
          | some b =>
            obtain ⟨b1, b2⟩ := b
            have HG := Lib.hid (get_in r1 (inF l1) (some (b1, b2)) B1 c1 x.name _ (row_step R2r.out hba) (by omega) C1.out hv)
            have HV := Lib.hid hv
            clear hv
            cases hq : (b1 == x.n && b2 == x.d) with
            | true =>
              have hne := fun W => neFr (a := b1) (b := b2) (c := x.n) (d := x.d) (r := false) (by rw [hq]; rfl) W
              have HQ : Hid (b1 = x.n ∧ b2 = x.d) := Lib.hid (by simpa using hq)
              clear hq
              go_wp2_with fail
              refine HG.out.mono ?_
              rintro e w4 ⟨rfl, hb4⟩
              have B4 := keepH hb4 BI.out
              have cB4 := cellH B4
              have hr4 : Below wr.heap.size wr w4 := stepH hba hb4
              obtain ⟨lB4, lB41, lB42⟩ := ltH B4
              unfold getV
              go_wp2_with fail
              go_roundw
              case rel => exact ⟨k + 1, N, by omega, by go_num, by omega, Lib.hid (by rw [foldl_snoc HX.out]; unfold step2; rw [if_pos (by rw [HV.out, HQ.out.1, HQ.out.2])]; exact HAM.out.step (by (repeat' (first | with_reducible exact Below.refl _ _ | with_reducible assumption | with_reducible refine Below.drew ?_ | with_reducible refine below_drewN ?_ _ | with_reducible refine Below.setCell ?_ ?_ _ | with_reducible refine Below.alloc ?_ ?_ _ | omega | (simp; done) | (simp; omega))))), ho.trans (only_step (by (repeat' (first | with_reducible exact Below.refl _ _ | with_reducible assumption | with_reducible refine Below.drew ?_ | with_reducible refine below_drewN ?_ _ | with_reducible refine Below.setCell ?_ ?_ _ | with_reducible refine Below.alloc ?_ ?_ _ | omega | (simp; done) | (simp; omega)))))⟩
              case measure => simp [intOf] <;> omega
            | false =>
              have hne := fun W => neFr (a := b1) (b := b2) (c := x.n) (d := x.d) (r := true) (by rw [hq]; rfl) W
              have HQ : Hid (¬ (b1 = x.n ∧ b2 = x.d)) := Lib.hid (by simpa using hq)
              clear hq
              go_wp2_with fail
              refine HG.out.mono ?_
              rintro e w4 ⟨rfl, hb4⟩
              have B4 := keepH hb4 BI.out
              have cB4 := cellH B4
              have hr4 : Below wr.heap.size wr w4 := stepH hba hb4
              obtain ⟨lB4, lB41, lB42⟩ := ltH B4
              unfold getV
              go_wp2_with fail
              obtain ⟨u, hu⟩ : ∃ u, w4.alloc (.cells #[.int .i64 b1, .int .i64 b2] 39) = u := ⟨_, rfl⟩
              have hbu : Below wr.heap.size wr u := by rw [← hu]; (repeat' (first | with_reducible exact Below.refl _ _ | with_reducible assumption | with_reducible refine Below.drew ?_ | with_reducible refine below_drewN ?_ _ | with_reducible refine Below.setCell ?_ ?_ _ | with_reducible refine Below.alloc ?_ ?_ _ | omega | (simp; done) | (simp; omega)))
              have BU : Hid (u.heap[wr.heap.size]? = some (.cells #[.string x.name, .int .i64 x.n, .int .i64 x.d] 53 (0, 0))) := Lib.hid (by rw [← hu]; exact blk_old B4.out)
              have HAU := Lib.hid (HAM.out.step hbu)
              have BX := Lib.hid HAU.out.box
              rw [hu]
              clear hu cB4 B4 BI
              have hbd : Below u.heap.size u u.drew := (Below.refl _ _).drew
              have zu := hbu.size
              have x0 : u.drew.cell? ⟨a, 0, none⟩ = some (.map (some M)) := cellH BX 0
              have x1 := cellH (w := u.drew) BU
              go_region_held3 (fun w' => w'.cell? ⟨a, 0, none⟩ = some (.map (some M)) ∧ ∀ o, w'.cell? ⟨wr.heap.size, o, none⟩ = #[.string x.name, .int .i64 x.n, .int .i64 x.d][o]?) (first | with_reducible exact ⟨x0, x1⟩ | with_reducible exact ⟨d0, d1⟩)
                (first | (go_at_call 38; refine (made_any ⟨x.name, false, x.n, x.d⟩ u.drew).mono ?_; rintro e w5 ⟨⟨g5, rfl, hbx, hg5⟩, hb5⟩; have hb5' : Below u.heap.size u w5 := stepH hbd hb5; have P5 := keepH hb5' BU.out; have HA5 := Lib.hid (HAU.out.step hb5'); have B5 := Lib.hid HA5.out.box; obtain ⟨w6, hrunU, ⟨N6, hA6, hN6⟩, hg6⟩ := HA5.out.put (c := ⟨x.name, false, x.n, x.d⟩) hsz hbx (by omega); have hm5 := HA5.out.isMap; have d0 : w6.cell? ⟨a, 0, none⟩ = some (.map (some M)) := cellH (Lib.hid (heap_turn B5.out hg6 hm5)) 0; have d1 := cellH (Lib.hid (heap_turn P5.out hg6 hm5)); have x0 : w5.cell? ⟨a, 0, none⟩ = some (.map (some M)) := cellH B5 0; have x1 := cellH P5; have HA6 := Lib.hid hA6; have HG6 := Lib.hid hg6; have HB5 := Lib.hid hb5'; clear hb5 hA6 hg6 hbx))
              go_wp2_with fail
              go_roundw
              case rel => exact ⟨k + 1, N6, by omega, by go_num, by omega, Lib.hid (by rw [foldl_snoc HX.out]; unfold step2; rw [if_neg (by rw [HV.out]; intro q; injection q with q; injection q with q1 q2; exact HQ.out ⟨q1, q2⟩)]; exact HA6.out), ((ho.trans (only_step hbu)).trans (only_step HB5.out)).trans (only_turn HG6.out)⟩
              case measure => simp [intOf] <;> omega
        · obtain rfl : k = r2.length := by omega
          have hlt2 : ¬ (r2.length : Int) < (r2.length : Int) := by omega
          have HAE : Hid (AmAt wr a M (diffA (inF l1) (inF l2)) N) := Lib.hid (by
            have := HAM.out
            rw [List.take_length, ← HF1.out] at this
            have e := steps_diff (l1 := r1) (l2 := r2) C2.out.keys.nodup
            rw [C1.out.inF, C2.out.inF] at e
            rwa [e] at this)
          have hwr := HKK.out wr ho
          clear HAM
          go_wp2_with fail
          refine (few_ok a M N _ wr HAE.out (by omega)).mono ?_
          rintro e w7 ⟨rfl, hb7⟩
          have HA7 := Lib.hid (HAE.out.step hb7)
          have hw7 := stepH hwr hb7
          go_wp2_with fail
          go_ret2
          exact ⟨⟨a, M, N, rfl, HA7.out, by omega, by omega, by omega⟩, hw7⟩
end Go.Proofs.YtmoeoomlggjaaaaGreatDoor
