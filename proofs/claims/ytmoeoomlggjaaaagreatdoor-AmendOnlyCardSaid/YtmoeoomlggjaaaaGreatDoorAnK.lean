/- AmendOnly: the plain law, the law's walk. -/
import Derived.Test.YtmoeoomlggjaaaaGreatDoorAnJ
namespace Go.Proofs.YtmoeoomlggjaaaaGreatDoor
open Go.RowKit Go.Maps

/-- what onlyF leaves -/
def hiF (u : ByteArray) (f : Am) : Am := fun y => if leB y u.data.toList = true then none else f y
theorem lo_hi (u : ByteArray) (f : Am) : over (onlyF u f) (hiF u f) = f := by
  funext y
  unfold over onlyF hiF
  by_cases h : leB y u.data.toList = true
  · simp [h]
  · simp only [h]
    cases f y <;> simp
theorem hi_lo (u : ByteArray) (f : Am) : over (hiF u f) (onlyF u f) = f := by
  funext y
  unfold over onlyF hiF
  by_cases h : leB y u.data.toList = true
  · simp only [h, if_true]
    cases f y <;> simp
  · simp [h]
theorem only_canon {u : ByteArray} {f : Am} {cs : List Ch} (h : Canon f cs) : Canon (onlyF u f) (cs.filter (fun c => leB (nmb c) u.data.toList)) where
  keys := by
    have hs : ((cs.filter (fun c => leB (nmb c) u.data.toList)).map nmb).Sublist (cs.map nmb) := List.Sublist.map nmb List.filter_sublist
    refine ⟨h.keys.sorted.sublist hs, h.keys.nodup.sublist hs, fun y => ?_⟩
    unfold onlyF
    constructor
    · intro hy
      obtain ⟨c, hc, rfl⟩ := List.mem_map.1 hy
      obtain ⟨h1, h2⟩ := List.mem_filter.1 hc
      rw [if_pos h2, h.at' c h1]; rfl
    · intro hy
      by_cases q : leB y u.data.toList = true
      · rw [if_pos q] at hy
        obtain ⟨c, hc, rfl⟩ := List.mem_map.1 ((h.keys.mem y).2 hy)
        exact List.mem_map_of_mem (List.mem_filter.2 ⟨hc, q⟩)
      · rw [if_neg q] at hy; cases hy
  at' c hc := by
    obtain ⟨h1, h2⟩ := List.mem_filter.1 hc
    unfold onlyF
    rw [if_pos h2]
    exact h.at' c h1
theorem hi_make {u : ByteArray} {f : Am} {cs : List Ch} (h : Canon f cs) : makeF (cs.filter (fun c => !leB (nmb c) u.data.toList)) = hiF u f := by
  have hs : ((cs.filter (fun c => !leB (nmb c) u.data.toList)).map nmb).Sublist (cs.map nmb) := List.Sublist.map nmb List.filter_sublist
  funext y
  unfold hiF
  by_cases q : y ∈ (cs.filter (fun c => !leB (nmb c) u.data.toList)).map nmb
  · obtain ⟨c, hc, rfl⟩ := List.mem_map.1 q
    obtain ⟨h1, h2⟩ := List.mem_filter.1 hc
    rw [makeF_yes (h.keys.nodup.sublist hs) hc, if_neg (by simpa using h2), h.at' c h1]
  · rw [makeF_not q]
    by_cases p : leB y u.data.toList = true
    · rw [if_pos p]
    · rw [if_neg p]
      cases hf : f y with
      | none => rfl
      | some c =>
        obtain ⟨c', hc, e⟩ := List.mem_map.1 ((h.keys.mem y).2 (by rw [hf]; rfl))
        exact absurd (List.mem_map.2 ⟨c', List.mem_filter.2 ⟨hc, by rw [e]; simpa using p⟩, e⟩) q
theorem filter_snoc {cs : List Ch} {k : Nat} {c : Ch} {p : Ch → Bool} (h : cs[k]? = some c) : (cs.take (k + 1)).filter p = (cs.take k).filter p ++ (if p c = true then [c] else []) := by
  rw [take_snoc h, List.filter_append, List.filter_cons, List.filter_nil]

set_option maxRecDepth 100000 in
set_option maxHeartbeats 32000000 in
theorem onlyL_any (x : List Ch) (A0 : Option Addr) (c0 : Nat) (u : ByteArray) (E : Nat → Addr) (m : Int) (w : World) (hx : RowAt chL 4 w w.heap.size A0 x) (hix : ∀ c ∈ x, InC c) (hE : Env LA E w) (hm : w.cell? ⟨4, 0, none⟩ = some (.int .i64 m)) :
    Calls Tryz.prog 6 #[.slice A0 x.length c0, .string u] w fun e w' => e = .returned (.bool true) ∧ Below w.heap.size w w' := by
  obtain ⟨inf0, hi, jz0, jz1, jz2⟩ := info_parts infoCh
  have hmf : ∀ (fn : Fn) (first cap : Array Value) (w : World), (Instr.makeFunc fn first cap).run Tryz.prog w = .ok (.func fn first cap) w := fun _ _ _ _ => rfl
  have HE := Lib.hid hE
  have HM := Lib.hid hm
  have RX := Lib.hid hx
  have IX := Lib.hid hix
  clear hE hm hx hix
  obtain ⟨w0, hw0e⟩ : ∃ q, w.alloc (.cells #[.string u] 9) = q := ⟨_, rfl⟩
  have hw0 : Below w.heap.size w w0 := by rw [← hw0e]; (repeat' (first | with_reducible exact Below.refl _ _ | with_reducible assumption | with_reducible refine Below.drew ?_ | with_reducible refine below_drewN ?_ _ | with_reducible refine Below.setCell ?_ ?_ _ | with_reducible refine Below.alloc ?_ ?_ _ | omega | (simp; done) | (simp; omega)))
  have BK : Hid (w0.heap[w.heap.size]? = some (.cells #[.string u] 9 (0, 0))) := Lib.hid (by rw [← hw0e]; exact blk_new rfl)
  have HFI := Lib.hid (first25_any E m w0 (HE.out.below hw0) (cell_at HM.out hw0))
  have HW0 := Lib.hid hw0e
  clear hw0e
  by_cases hx : (100 : Int) < (x.length : Int)
  · go_enter Tryz.func6, Tryz.ntmps6
    go_wp2_with fail
    rw [HW0.out]
    refine HFI.out.mono ?_
    rintro e w1 ⟨rfl, hb1⟩
    go_wp2_with fail
    go_ret
    exact ⟨rfl, stepH hw0 hb1⟩
  have lx : x.length ≤ 100 := by omega
  go_enter Tryz.func6, Tryz.ntmps6
  go_wp2_with fail
  rw [HW0.out]
  have RX := Lib.hid (row_step RX.out hw0)
  have z0 := hw0.size
  clear HW0
  refine (HFI.out).mono ?_
  rintro e w1 ⟨rfl, hb1⟩
  replace hb1 : Below w0.heap.size w0 w1 := stepH (by (repeat' (first | with_reducible exact Below.refl _ _ | with_reducible assumption | with_reducible refine Below.drew ?_ | with_reducible refine below_drewN ?_ _ | with_reducible refine Below.setCell ?_ ?_ _ | with_reducible refine Below.alloc ?_ ?_ _ | omega | (simp; done) | (simp; omega)))) hb1
  have hw1 : Below w.heap.size w w1 := stepH hw0 hb1
  have RX := Lib.hid (row_step RX.out hb1)
  have BK := keepH hb1 BK.out
  have z1 := hw1.size
  clear hb1
  clear HFI
  go_wp2_with fail
  obtain ⟨w2, hu2⟩ : ∃ u, w1.alloc (.cells #[.slice A0 x.length c0] 23) = u := ⟨_, rfl⟩
  have hb2 : Below w1.heap.size w1 w2 := by rw [← hu2]; (repeat' (first | with_reducible exact Below.refl _ _ | with_reducible assumption | with_reducible refine Below.drew ?_ | with_reducible refine below_drewN ?_ _ | with_reducible refine Below.setCell ?_ ?_ _ | with_reducible refine Below.alloc ?_ ?_ _ | omega | (simp; done) | (simp; omega)))
  have RG : Hid (RowAt grL 1 w2 w2.heap.size (some ⟨w1.heap.size, 0, none⟩) [(x, A0, c0)]) := Lib.hid (row_blk [(x, A0, c0)] grL_len (show w2.heap[w1.heap.size]? = some (.cells #[.slice A0 x.length c0] 23 (0, 0)) by rw [← hu2]; exact blk_new rfl) rfl)
  rw [hu2]
  have hw2 : Below w.heap.size w w2 := stepH hw1 hb2
  have RX := Lib.hid (row_step RX.out hb2)
  have BK := keepH hb2 BK.out
  have z2 := hw2.size
  clear hb2 hu2
  refine (good_any [(x, A0, c0)] (some ⟨w1.heap.size, 0, none⟩) 1 E m _ RG.out (fun q hq => by simp only [List.mem_cons, List.not_mem_nil, or_false] at hq; subst hq; exact ⟨RX.out, by show x.length ≤ 500; omega, IX.out⟩) (by show 1 ≤ 100; omega) (HE.out.below hw2) (cell_at HM.out hw2)).mono ?_
  rintro e w3 ⟨⟨hgd⟩, hb3⟩
  replace hb3 : Below w2.heap.size w2 w3 := stepH (by (repeat' (first | with_reducible exact Below.refl _ _ | with_reducible assumption | with_reducible refine Below.drew ?_ | with_reducible refine below_drewN ?_ _ | with_reducible refine Below.setCell ?_ ?_ _ | with_reducible refine Below.alloc ?_ ?_ _ | omega | (simp; done) | (simp; omega)))) hb3
  have hw3 : Below w.heap.size w w3 := stepH hw2 hb3
  have RX := Lib.hid (row_step RX.out hb3)
  have BK := keepH hb3 BK.out
  have RG := Lib.hid (row_step RG.out hb3)
  have z3 := hw3.size
  clear hb3
  clear RG RX
  rcases hgd with rfl | ⟨AP, cP, ps, hpl, rfl, hpr, hpg⟩
  case inl =>
    go_wp2_with fail
    go_ret
    exact ⟨rfl, hw3⟩
  obtain ⟨⟨a, Ma⟩, rfl⟩ : ∃ p, ps = [p] := by
    match ps, hpl with
    | [p], _ => exact ⟨p, rfl⟩
  obtain ⟨hma, Na, ha, hna⟩ := hpg 0 _ _ rfl rfl
  dsimp only at hma ha hna
  obtain ⟨f, hf⟩ : ∃ f, makeF x = f := ⟨_, rfl⟩
  have OF : Hid (okA f) := Lib.hid (hf ▸ makeF_ok hma)
  rw [hf] at ha
  have AA := Lib.hid ha
  obtain ⟨gp, op, rfl, pa⟩ := ptr_cell hpr (k := 0) rfl
  dsimp only at pa
  rw [Nat.add_zero] at pa
  clear ha hma hf hpr hpg hpl
  go_wp2_with fail
  obtain ⟨w4, hu4⟩ : ∃ u, w3.alloc (.cells #[.slice none 0 0] 50) = u := ⟨_, rfl⟩
  have hb4 : Below w3.heap.size w3 w4 := by rw [← hu4]; (repeat' (first | with_reducible exact Below.refl _ _ | with_reducible assumption | with_reducible refine Below.drew ?_ | with_reducible refine below_drewN ?_ _ | with_reducible refine Below.setCell ?_ ?_ _ | with_reducible refine Below.alloc ?_ ?_ _ | omega | (simp; done) | (simp; omega)))
  have BA : Hid (w4.heap[w3.heap.size]? = some (.cells #[.slice none 0 0] 50 (0, 0))) := Lib.hid (by rw [← hu4]; exact blk_new rfl)
  rw [hu4]
  have hw4 : Below w.heap.size w w4 := stepH hw3 hb4
  have BK := keepH hb4 BK.out
  have AA := Lib.hid (AA.out.step hb4)
  have z4 := hw4.size
  clear hb4 hu4 pa
  obtain ⟨ka, hka⟩ : ∃ n, w3.heap.size = n := ⟨_, rfl⟩
  rw [hka] at BA
  have hkw : w.heap.size ≤ ka := by omega
  rw [hka]
  clear hka
  refine (only_any a Ma Na f u ka w.heap.size _ AA.out (by omega) BA.out BK.out).mono ?_
  rintro e w5 ⟨⟨lo, Ml, Nl, ks, v, rfl, hlo, hnl, hsk, hkl, hbv, hov⟩, haa, hol⟩
  have hbk9 : w.heap.size ≠ ka := by rintro rfl; have h1 := BK.out; rw [BA.out] at h1; injection h1 with h1; injection h1 with _ h1; exact absurd h1 (by decide)
  have hw5 : Below w.heap.size w w5 := hw4.trans (hol.below hw4.size (fun k hk => by simp at hk; omega))
  have BK : Hid (w5.heap[w.heap.size]? = some (.cells #[.string u] 9 (0, 0))) := Lib.hid ((hol.block _ (lt_of_H BK) (by simp; exact hbk9)).trans BK.out)
  obtain ⟨al, hal⟩ : ∃ l, ks.map mkN = l := ⟨_, rfl⟩
  have hall : al.length = Na := by rw [← hal, List.length_map, hkl]
  rw [hal] at hov
  obtain ⟨AV, cV, rfl, hrv, _, _⟩ := own_line (fun x _ => encS_len x) hov
  have RA := Lib.hid hrv
  have BA := Lib.hid hbv
  have AL := Lib.hid hlo
  have AA := Lib.hid haa
  have HSK := Lib.hid hsk
  have HAL := Lib.hid hal
  have z5 := hw5.size
  rw [hall] at BA
  clear hlo haa hsk hrv hbv hov hol hal
  go_wp2_with fail
  have hbd : Below w5.heap.size w5 w5.drew := (Below.refl _ _).drew
  have x0 : w5.drew.cell? ⟨ka, 0, none⟩ = some (.slice AV Na cV) := cellH BA 0
  have HLN := Lib.hid (len_any a Ma Na f w5.drew (AA.out.step hbd))
  go_region_held3 (fun w' => w'.cell? ⟨ka, 0, none⟩ = some (.slice AV Na cV)) (first | with_reducible exact x0 | with_reducible exact d0)
    (first | (go_at_call 13; refine HLN.out.mono ?_; rintro e w70 ⟨rfl, hb70⟩; replace hb70 : Below w5.heap.size w5 w70 := stepH hbd hb70; have d0 : w70.cell? ⟨ka, 0, none⟩ = some (.slice AV Na cV) := cellH (keepH hb70 BA.out) 0))
  have hw70 := stepH hw5 hb70
  have BK := keepH hb70 BK.out
  have BA := keepH hb70 BA.out
  have AL := Lib.hid (AL.out.step hb70)
  have AA := Lib.hid (AA.out.step hb70)
  have RA := Lib.hid (row_step RA.out hb70)
  have z70 := hw70.size
  clear hb70 hbd x0 d0 HLN
  go_wp2_with fail
  refine (changes_any a Ma Na _ _ AA.out (by omega)).mono ?_
  rintro e w71 ⟨⟨v1, cs, rfl, hv1, hc, hcl⟩, hb71⟩
  replace hb71 : Below w70.heap.size w70 w71 := stepH (by (repeat' (first | with_reducible exact Below.refl _ _ | with_reducible assumption | with_reducible refine Below.drew ?_ | with_reducible refine below_drewN ?_ _ | with_reducible refine Below.setCell ?_ ?_ _ | with_reducible refine Below.alloc ?_ ?_ _ | omega | (simp; done) | (simp; omega)))) hb71
  have hw71 : Below w.heap.size w w71 := stepH hw70 hb71
  have BK := keepH hb71 BK.out
  have BA := keepH hb71 BA.out
  have AL := Lib.hid (AL.out.step hb71)
  have AA := Lib.hid (AA.out.step hb71)
  have RA := Lib.hid (row_step RA.out hb71)
  have z71 := hw71.size
  clear hb71
  obtain ⟨AC, cc, rfl, hr, _, _⟩ := own_line (fun x _ => chL_len x) hv1
  have CC := Lib.hid hc
  rw [hcl]
  clear hv1 hc
  have RC := Lib.hid hr
  clear hr
  have HKS : Hid (cs.map nmb = ks) := Lib.hid (CC.out.keys.unique HSK.out)
  go_wp2_with fail
  go_loopw [12, 13, 14] (fun v1 v2 i wr => ∃ (k : Nat) (W R : List Ch), k ≤ Na ∧ i = .int .i64 k ∧ Hid (Own chL 4 41 w71.heap.size wr v1 W) ∧ Hid (Own chL 4 41 w71.heap.size wr v2 R) ∧ Hid (W = (cs.take k).filter (fun c => leB (nmb c) u.data.toList)) ∧ Hid (R = (cs.take k).filter (fun c => !leB (nmb c) u.data.toList)) ∧ W.length ≤ k ∧ R.length ≤ k ∧ Hid (∀ g, v1.ownBlock = some g → v2.ownBlock = some g → False) ∧ Below w71.heap.size w71 wr) (fun _ _ i _ => Na - (intOf i).toNat)
  case atStart => exact ⟨0, [], [], Nat.zero_le _, rfl, Lib.hid Own.nil, Lib.hid Own.nil, Lib.hid rfl, Lib.hid rfl, Nat.zero_le _, Nat.zero_le _, Lib.hid (fun g h => by cases h), Below.refl _ _⟩
  case round =>
    obtain ⟨k, W, R, hk, rfl, HW, HR, HWE, HRE, hwl, hrl, HD, hwq⟩ := hrel
    have hwr := stepH hw71 hwq
    have zr := hwr.size
    have zq := hwq.size
    have BK := keepH hwq BK.out
    have BA := keepH hwq BA.out
    have AL := Lib.hid (AL.out.step hwq)
    have AA := Lib.hid (AA.out.step hwq)
    have RA := Lib.hid (row_step RA.out hwq)
    have RC := Lib.hid (row_step RC.out hwq)
    by_cases hlt : k < Na
    ·
      have hlt2 : (k : Int) < (Na : Int) := by omega
      obtain ⟨c, hc⟩ : ∃ x, cs[k]? = some x := ⟨cs[k]'(by omega), List.getElem?_eq_getElem _⟩
      have hac : al[k]? = some c.name := by
        rw [← HAL.out, ← HKS.out, List.getElem?_map, List.getElem?_map, hc]
        exact congrArg some (mkN_name _)
      obtain ⟨g1, o1, rfl, hg1, p0, p1, p2, p3⟩ := cellsC RC.out hc
      obtain ⟨g2, o2, rfl, hg2, q0⟩ := cell1 RA.out hac
      have cA := cellH BA
      have cB := cellH BK
      have HX := Lib.hid hc
      have HLE := Lib.hid (le_law c.name u)
      clear hc hac
      have hd0 : Below wr.heap.size wr wr.drew := (Below.refl _ _).drew
      go_wp2_with fail
      have x0 : wr.drew.cell? ⟨g1, o1 + k * 4, none⟩ = some (.string c.name) := p0
      have x1 : wr.drew.cell? ⟨ka, 0, none⟩ = some (.slice (some ⟨g2, o2, none⟩) Na cV) := cA 0
      have x2 : wr.drew.cell? ⟨g2, o2 + k, none⟩ = some (.string c.name) := q0
      go_region_held3 (fun w' => w'.cell? ⟨g1, o1 + k * 4, none⟩ = some (.string c.name) ∧ w'.cell? ⟨ka, 0, none⟩ = some (.slice (some ⟨g2, o2, none⟩) Na cV) ∧ w'.cell? ⟨g2, o2 + k, none⟩ = some (.string c.name)) (first | with_reducible exact ⟨x0, x1, x2⟩ | go_keep)
        (fail)
      clear x0 x1 x2 cA
      go_wp2_with fail
      have hd2 : Below wr.heap.size wr wr.drew.drew := hd0.drew
      have y0 : wr.drew.drew.cell? ⟨g1, o1 + k * 4, none⟩ = some (.string c.name) := p0
      have y1 : wr.drew.drew.cell? ⟨w.heap.size, 0, none⟩ = some (.string u) := cB 0
      have t0 := cell_at p0 hd2
      have t1 := cell_at p1 hd2
      have t2 := cell_at p2 hd2
      have t3 := cell_at p3 hd2
      clear p0 p1 p2 p3 q0 cB
      cases hq : leB (nmb c) u.data.toList with
      | true =>
        have hq2 : (Op.bytesLess c.name.toList u.toList || c.name.toList == u.toList) = true := HLE.out.trans hq
        go_region_held3 (fun w' => w'.cell? ⟨g1, o1 + k * 4, none⟩ = some (.string c.name) ∧ w'.cell? ⟨w.heap.size, 0, none⟩ = some (.string u)) (first | with_reducible exact ⟨y0, y1⟩ | go_keep)
          (fail)
        go_wp2_with (at_builtin; go_must (refine wpList_append_lies _ rfl (.tmp 78) (.tmp 83) 23 rfl w71.heap.size 41 inf0 _ 4 40 Tryz.underlying23 hi jz0 jz1 jz2 rfl (by decide) _ W.length _ rfl (own_below HW.out (by (repeat' (first | with_reducible exact Below.refl _ _ | with_reducible assumption | with_reducible refine Below.drew ?_ | with_reducible refine below_drewN ?_ _ | with_reducible refine Below.setCell ?_ ?_ _ | with_reducible refine Below.alloc ?_ ?_ _ | omega | (simp; done) | (simp; omega))))) ⟨wr.heap.size, 0, none⟩ 1 1 [.string c.name, .bool c.clear, .int .i64 c.n, .int .i64 c.d] rfl rfl (World.news_of_block (cs := #[.string c.name, .bool c.clear, .int .i64 c.n, .int .i64 c.d]) (blk_new rfl)) (by simp [Value.oneCell']) (by decide) (by unfold maxLen; omega) (by omega) (by simp; omega) _ rfl ?_); intro g9 c9 w9 hown9 hgrow9 hat9 hlt9)
        go_roundw
        case rel =>
          refine ⟨k + 1, W ++ [c], R, by omega, by go_num, Lib.hid (Own.snoc hown9 rfl rfl), Lib.hid ((own_below HR.out (w' := wr.drew.drew.alloc (.cells #[.string c.name, .bool c.clear, .int .i64 c.n, .int .i64 c.d] 41)) (by (repeat' (first | with_reducible exact Below.refl _ _ | with_reducible assumption | with_reducible refine Below.drew ?_ | with_reducible refine below_drewN ?_ _ | with_reducible refine Below.setCell ?_ ?_ _ | with_reducible refine Below.alloc ?_ ?_ _ | omega | (simp; done) | (simp; omega))))).kept hgrow9 (by
            cases hv : u13.ownBlock with
            | none => exact .inl rfl
            | some q => exact .inr (fun e => HD.out q e.symm hv))), Lib.hid (by rw [filter_snoc HX.out, HWE.out]; simp [hq]), Lib.hid (by rw [filter_snoc HX.out, HRE.out]; simp [hq]), by (first | omega | (simp; omega)), by (first | omega | (simp; omega)), Lib.hid (fun g hg1 hg2 => ?_), Below.grown (Below.alloc (hwq.drew.drew) (by show _ ≤ wr.heap.size; omega) _) hgrow9 (by simp; omega) (fun g hg => by have := (HW.out.lt g hg).1; omega)⟩
          simp [Value.ownBlock] at hg1
          subst hg1
          rcases hat9 with h | h
          · exact HD.out _ h hg2
          · have := (HR.out.lt _ hg2).2
            simp at h
            omega
        case measure => simp [intOf] <;> omega
      | false =>
        have hq2 : (Op.bytesLess c.name.toList u.toList || c.name.toList == u.toList) = false := HLE.out.trans hq
        go_region_held3 (fun w' => w'.cell? ⟨g1, o1 + k * 4, none⟩ = some (.string c.name) ∧ w'.cell? ⟨w.heap.size, 0, none⟩ = some (.string u)) (first | with_reducible exact ⟨y0, y1⟩ | go_keep)
          (fail)
        go_wp2_with (at_builtin; go_must (refine wpList_append_lies _ rfl (.tmp 85) (.tmp 90) 23 rfl w71.heap.size 41 inf0 _ 4 40 Tryz.underlying23 hi jz0 jz1 jz2 rfl (by decide) _ R.length _ rfl (own_below HR.out (by (repeat' (first | with_reducible exact Below.refl _ _ | with_reducible assumption | with_reducible refine Below.drew ?_ | with_reducible refine below_drewN ?_ _ | with_reducible refine Below.setCell ?_ ?_ _ | with_reducible refine Below.alloc ?_ ?_ _ | omega | (simp; done) | (simp; omega))))) ⟨wr.heap.size, 0, none⟩ 1 1 [.string c.name, .bool c.clear, .int .i64 c.n, .int .i64 c.d] rfl rfl (World.news_of_block (cs := #[.string c.name, .bool c.clear, .int .i64 c.n, .int .i64 c.d]) (blk_new rfl)) (by simp [Value.oneCell']) (by decide) (by unfold maxLen; omega) (by omega) (by simp; omega) _ rfl ?_); intro g9 c9 w9 hown9 hgrow9 hat9 hlt9)
        go_roundw
        case rel =>
          refine ⟨k + 1, W, R ++ [c], by omega, by go_num, Lib.hid ((own_below HW.out (w' := wr.drew.drew.alloc (.cells #[.string c.name, .bool c.clear, .int .i64 c.n, .int .i64 c.d] 41)) (by (repeat' (first | with_reducible exact Below.refl _ _ | with_reducible assumption | with_reducible refine Below.drew ?_ | with_reducible refine below_drewN ?_ _ | with_reducible refine Below.setCell ?_ ?_ _ | with_reducible refine Below.alloc ?_ ?_ _ | omega | (simp; done) | (simp; omega))))).kept hgrow9 (by
            cases hv : u12.ownBlock with
            | none => exact .inl rfl
            | some q => exact .inr (fun e => HD.out q hv e.symm))), Lib.hid (Own.snoc hown9 rfl rfl), Lib.hid (by rw [filter_snoc HX.out, HWE.out]; simp [hq]), Lib.hid (by rw [filter_snoc HX.out, HRE.out]; simp [hq]), by (first | omega | (simp; omega)), by (first | omega | (simp; omega)), Lib.hid (fun g hg2 hg1 => ?_), Below.grown (Below.alloc (hwq.drew.drew) (by show _ ≤ wr.heap.size; omega) _) hgrow9 (by simp; omega) (fun g hg => by have := (HR.out.lt g hg).1; omega)⟩
          simp [Value.ownBlock] at hg1
          subst hg1
          rcases hat9 with h | h
          · exact HD.out _ hg2 h
          · have := (HW.out.lt _ hg2).2
            simp at h
            omega
        case measure => simp [intOf] <;> omega
    ·
      obtain rfl : k = Na := by omega
      have hlt2 : ¬ (k : Int) < (k : Int) := by omega
      have HWF : Hid (W = cs.filter (fun c => leB (nmb c) u.data.toList)) := Lib.hid (by rw [HWE.out, List.take_of_length_le (by omega)])
      have HRF : Hid (R = cs.filter (fun c => !leB (nmb c) u.data.toList)) := Lib.hid (by rw [HRE.out, List.take_of_length_le (by omega)])
      obtain ⟨AW, cW, rfl, hr1, _, _⟩ := own_line (fun x _ => chL_len x) HW.out
      obtain ⟨AR, cR, rfl, hr2, _, _⟩ := own_line (fun x _ => chL_len x) HR.out
      clear HW HR HD HWE HRE
      have RW := Lib.hid hr1
      clear hr1
      have RR := Lib.hid hr2
      clear hr2
      clear BK BA RA
      have hmay : ∀ c ∈ R, mayE c = none := fun c hc => by
        rw [HRF.out] at hc
        exact (OF.out _ _ (CC.out.at' c (List.mem_filter.1 hc).1)).2
      have HMY := Lib.hid hmay
      clear hmay
      go_wp2_with fail
      refine (make_any R AR cR E m _ RR.out (by omega) (fun q hq => mayE_inC (HMY.out q hq)) (HE.out.below hwr) (cell_at HM.out hwr)).mono ?_
      rintro e w81 ⟨hmk, hb81⟩
      replace hb81 : Below wr.heap.size wr w81 := stepH (by (repeat' (first | with_reducible exact Below.refl _ _ | with_reducible assumption | with_reducible refine Below.drew ?_ | with_reducible refine below_drewN ?_ _ | with_reducible refine Below.setCell ?_ ?_ _ | with_reducible refine Below.alloc ?_ ?_ _ | omega | (simp; done) | (simp; omega)))) hb81
      have hw81 : Below w.heap.size w w81 := stepH hwr hb81
      have AL := Lib.hid (AL.out.step hb81)
      have AA := Lib.hid (AA.out.step hb81)
      have RC := Lib.hid (row_step RC.out hb81)
      have RW := Lib.hid (row_step RW.out hb81)
      have RR := Lib.hid (row_step RR.out hb81)
      have z81 := hw81.size
      clear hb81
      clear RR
      rcases hmk with ⟨_, hi9, Mh, Nh, rfl, hh, hhn, _, _⟩ | ⟨⟨q, hq, hq2⟩, _⟩
      case inr => exact absurd (HMY.out q hq) hq2
      rw [HRF.out, hi_make CC.out] at hh
      have hhn2 : Nh ≤ 100 := by omega
      clear hhn
      have AH := Lib.hid hh
      clear hh
      go_wp2_with fail
      refine (changes_any lo Ml Nl _ _ AL.out (by omega)).mono ?_
      rintro e w82 ⟨⟨v3, l3, rfl, hv3, hc, hc3⟩, hb82⟩
      replace hb82 : Below w81.heap.size w81 w82 := stepH (by (repeat' (first | with_reducible exact Below.refl _ _ | with_reducible assumption | with_reducible refine Below.drew ?_ | with_reducible refine below_drewN ?_ _ | with_reducible refine Below.setCell ?_ ?_ _ | with_reducible refine Below.alloc ?_ ?_ _ | omega | (simp; done) | (simp; omega)))) hb82
      have hw82 : Below w.heap.size w w82 := stepH hw81 hb82
      have AL := Lib.hid (AL.out.step hb82)
      have AA := Lib.hid (AA.out.step hb82)
      have RC := Lib.hid (row_step RC.out hb82)
      have RW := Lib.hid (row_step RW.out hb82)
      have AH := Lib.hid (AH.out.step hb82)
      have z82 := hw82.size
      clear hb82
      obtain rfl : l3 = W := by rw [HWF.out]; exact hc.unique (only_canon CC.out)
      obtain ⟨A3, c3, rfl, hr, _, _⟩ := own_line (fun x _ => chL_len x) hv3
      clear hv3 hc hc3
      have R3 := Lib.hid hr
      clear hr
      go_wp2_with fail
      refine (sameCs_any l3 A3 AW c3 cW _ R3.out RW.out (by omega)).mono ?_
      rintro e w83 ⟨rfl, hb83⟩
      replace hb83 : Below w82.heap.size w82 w83 := stepH (by (repeat' (first | with_reducible exact Below.refl _ _ | with_reducible assumption | with_reducible refine Below.drew ?_ | with_reducible refine below_drewN ?_ _ | with_reducible refine Below.setCell ?_ ?_ _ | with_reducible refine Below.alloc ?_ ?_ _ | omega | (simp; done) | (simp; omega)))) hb83
      have hw83 : Below w.heap.size w w83 := stepH hw82 hb83
      have AL := Lib.hid (AL.out.step hb83)
      have AA := Lib.hid (AA.out.step hb83)
      have RC := Lib.hid (row_step RC.out hb83)
      have RW := Lib.hid (row_step RW.out hb83)
      have AH := Lib.hid (AH.out.step hb83)
      have R3 := Lib.hid (row_step R3.out hb83)
      have z83 := hw83.size
      clear hb83
      clear R3 RW
      go_wp2_with fail
      refine (then_fit lo Ml Nl hi9 Mh Nh (onlyF u f) (hiF u f) f E _ AL.out AH.out (by omega) (HE.out.below hw83) (lo_hi u f)).mono ?_
      rintro e w84 ⟨⟨p, Mp, Np, rfl, hp, hnp⟩, hb84⟩
      replace hb84 : Below w83.heap.size w83 w84 := stepH (by (repeat' (first | with_reducible exact Below.refl _ _ | with_reducible assumption | with_reducible refine Below.drew ?_ | with_reducible refine below_drewN ?_ _ | with_reducible refine Below.setCell ?_ ?_ _ | with_reducible refine Below.alloc ?_ ?_ _ | omega | (simp; done) | (simp; omega)))) hb84
      have hw84 : Below w.heap.size w w84 := stepH hw83 hb84
      have AL := Lib.hid (AL.out.step hb84)
      have AA := Lib.hid (AA.out.step hb84)
      have RC := Lib.hid (row_step RC.out hb84)
      have AH := Lib.hid (AH.out.step hb84)
      have z84 := hw84.size
      clear hb84
      have Ap := Lib.hid hp
      clear hp
      go_wp2_with fail
      refine (then_fit hi9 Mh Nh lo Ml Nl (hiF u f) (onlyF u f) f E _ AH.out AL.out (by omega) (HE.out.below hw84) (hi_lo u f)).mono ?_
      rintro e w85 ⟨⟨q, Mq, Nq, rfl, hq, hnq⟩, hb85⟩
      replace hb85 : Below w84.heap.size w84 w85 := stepH (by (repeat' (first | with_reducible exact Below.refl _ _ | with_reducible assumption | with_reducible refine Below.drew ?_ | with_reducible refine below_drewN ?_ _ | with_reducible refine Below.setCell ?_ ?_ _ | with_reducible refine Below.alloc ?_ ?_ _ | omega | (simp; done) | (simp; omega)))) hb85
      have hw85 : Below w.heap.size w w85 := stepH hw84 hb85
      have AL := Lib.hid (AL.out.step hb85)
      have AA := Lib.hid (AA.out.step hb85)
      have RC := Lib.hid (row_step RC.out hb85)
      have AH := Lib.hid (AH.out.step hb85)
      have Ap := Lib.hid (Ap.out.step hb85)
      have z85 := hw85.size
      clear hb85
      have Aq := Lib.hid hq
      clear hq
      clear AL AH
      go_wp2_with fail
      refine (same_fit p Mp Np a Ma k f _ Ap.out AA.out (by omega) (by omega)).mono ?_
      rintro e w86 ⟨rfl, hb86⟩
      replace hb86 : Below w85.heap.size w85 w86 := stepH (by (repeat' (first | with_reducible exact Below.refl _ _ | with_reducible assumption | with_reducible refine Below.drew ?_ | with_reducible refine below_drewN ?_ _ | with_reducible refine Below.setCell ?_ ?_ _ | with_reducible refine Below.alloc ?_ ?_ _ | omega | (simp; done) | (simp; omega)))) hb86
      have hw86 : Below w.heap.size w w86 := stepH hw85 hb86
      have AA := Lib.hid (AA.out.step hb86)
      have RC := Lib.hid (row_step RC.out hb86)
      have Ap := Lib.hid (Ap.out.step hb86)
      have Aq := Lib.hid (Aq.out.step hb86)
      have z86 := hw86.size
      clear hb86
      go_wp2_with fail
      refine (same_fit q Mq Nq a Ma k f _ Aq.out AA.out (by omega) (by omega)).mono ?_
      rintro e w87 ⟨rfl, hb87⟩
      replace hb87 : Below w86.heap.size w86 w87 := stepH (by (repeat' (first | with_reducible exact Below.refl _ _ | with_reducible assumption | with_reducible refine Below.drew ?_ | with_reducible refine below_drewN ?_ _ | with_reducible refine Below.setCell ?_ ?_ _ | with_reducible refine Below.alloc ?_ ?_ _ | omega | (simp; done) | (simp; omega)))) hb87
      have hw87 : Below w.heap.size w w87 := stepH hw86 hb87
      have AA := Lib.hid (AA.out.step hb87)
      have RC := Lib.hid (row_step RC.out hb87)
      have Ap := Lib.hid (Ap.out.step hb87)
      have Aq := Lib.hid (Aq.out.step hb87)
      have z87 := hw87.size
      clear hb87
      clear Ap Aq
      go_wp2_with fail
      refine (changes_any a Ma k _ _ AA.out (by omega)).mono ?_
      rintro e w88 ⟨⟨v4, l4, rfl, hv4, hc, hc4⟩, hb88⟩
      replace hb88 : Below w87.heap.size w87 w88 := stepH (by (repeat' (first | with_reducible exact Below.refl _ _ | with_reducible assumption | with_reducible refine Below.drew ?_ | with_reducible refine below_drewN ?_ _ | with_reducible refine Below.setCell ?_ ?_ _ | with_reducible refine Below.alloc ?_ ?_ _ | omega | (simp; done) | (simp; omega)))) hb88
      have hw88 : Below w.heap.size w w88 := stepH hw87 hb88
      have AA := Lib.hid (AA.out.step hb88)
      have RC := Lib.hid (row_step RC.out hb88)
      have z88 := hw88.size
      clear hb88
      obtain rfl := hc.unique CC.out
      obtain ⟨A4, c4, rfl, hr, _, _⟩ := own_line (fun x _ => chL_len x) hv4
      rw [hc4]
      clear hv4 hc
      have R4 := Lib.hid hr
      clear hr
      have HSC := Lib.hid (sameCs_any l4 A4 AC c4 cc _ R4.out RC.out (by omega))
      rw [hc4] at HSC
      go_wp2_with fail
      refine (HSC.out).mono ?_
      rintro e w89 ⟨rfl, hb89⟩
      replace hb89 : Below w88.heap.size w88 w89 := stepH (by (repeat' (first | with_reducible exact Below.refl _ _ | with_reducible assumption | with_reducible refine Below.drew ?_ | with_reducible refine below_drewN ?_ _ | with_reducible refine Below.setCell ?_ ?_ _ | with_reducible refine Below.alloc ?_ ?_ _ | omega | (simp; done) | (simp; omega)))) hb89
      have hw89 : Below w.heap.size w w89 := stepH hw88 hb89
      have AA := Lib.hid (AA.out.step hb89)
      have RC := Lib.hid (row_step RC.out hb89)
      have R4 := Lib.hid (row_step R4.out hb89)
      have z89 := hw89.size
      clear hb89
      go_wp2_with fail
      go_ret
      exact ⟨rfl, hw89⟩
end Go.Proofs.YtmoeoomlggjaaaaGreatDoor
