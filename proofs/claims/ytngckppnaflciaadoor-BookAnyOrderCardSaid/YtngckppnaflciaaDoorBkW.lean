/- Book.where: the walk. -/
import Derived.Test.YtngckppnaflciaaDoorBkV
namespace Go.Proofs.YtngckppnaflciaaDoor
open Go.RowKit Go.Maps

theorem sel_step {S : List Pv} {F : Pv → Bool} {ids : List (List UInt8)} {k : Nat} {x : List UInt8} {p : Pv} (hx : ids[k]? = some x) (hg : getS S x = some p) : ((ids.take (k + 1)).filterMap (getS S)).filter F = ((ids.take k).filterMap (getS S)).filter F ++ (if F p = true then [p] else []) := by
  rw [take_snoc hx, List.filterMap_append, List.filter_append]
  congr 1
  rw [List.filterMap_cons, hg, List.filterMap_nil, List.filter_cons, List.filter_nil]

theorem flat1 {α : Type} (f : α → Value) (l : List α) : l.flatMap (fun x => [f x]) = l.map f := by
  induction l with
  | nil => rfl
  | cons x r ih => rw [List.flatMap_cons, ih]; rfl
/-- what where picks -/
def sel (F : Pv → Bool) (S : List Pv) : List Pv := (srt S).filter F

set_option maxRecDepth 100000 in
set_option maxHeartbeats 16000000 in
theorem where_any (b M : Nat) (cl : Bool) (S : List Pv) (F : Pv → Bool) (gf : Nat) (cb : Array Value) (w : World) (h : BookAt w b M cl S) (hS : S.length ≤ 100000)
    (eg : ∀ args w, (callFunc gf args).run Tryd.prog w = .ok (.enter gf args) w)
    (hf : ∀ p ∈ S, ∀ A c W, Below w.heap.size w W → PvAt W W.heap.size p A c → Calls Tryd.prog gf (#[pvV p A c] ++ cb) W fun e W' => e = .returned (.bool (F p)) ∧ Below W.heap.size W W') :
    Calls Tryd.prog 29 #[.pointer (some ⟨b, 0, none⟩), .func (.func gf) #[] cb] w fun e w' => (∃ A c, e = .returned (.slice A (sel F S).length c) ∧ ProvsAt w' w'.heap.size A (sel F S)) ∧ Below w.heap.size w w' := by
  obtain ⟨inf0, hi, jz0, jz1, jz2⟩ := info_parts infoPv
  have HH := Lib.hid h
  have HFN := Lib.hid hf
  have BX := Lib.hid h.box
  have cB := cellH BX
  obtain ⟨lB, lB1, lB2⟩ := ltH BX
  obtain ⟨D, hown, hr⟩ := h.own
  have hsz := size_is hown hr
  have hnd := hr.nodup
  have HK := Lib.hid (fun mb W => callsIn_wide.1 (Tryd.maps_Keys_43 mb W))
  have HSO := Lib.hid (callsIn_wide.1 (Tryd.slices_Sorted_keys_27_43 M S.length D RV w hown (by rw [hsz]; unfold maxLen; omega) (by rw [hsz]; omega)))
  have HPK := Lib.hid (keys_perm hown hr)
  have HR := Lib.hid hr
  have HO := Lib.hid hown
  have HND := Lib.hid hnd
  clear h hf hown hr hsz hnd
  go_enter Tryd.func29, Tryd.ntmps29
  go_wp2_with fail
  refine (HK.out _ _).mono ?_
  rintro e w1 ⟨rfl, rfl⟩
  go_wp2_with fail
  refine HSO.out.mono ?_
  rintro e w2 ⟨v, ss, rfl, hperm, hrow, _, hb2⟩
  have hw2 : Below w.heap.size w w2 := stepH (by (repeat' (first | with_reducible exact Below.refl _ _ | with_reducible assumption | with_reducible refine Below.drew ?_ | with_reducible refine below_drewN ?_ _ | with_reducible refine Below.setCell ?_ ?_ _ | with_reducible refine Below.alloc ?_ ?_ _ | omega | (simp; done) | (simp; omega)))) hb2
  have HID : Hid (ss.mergeSort (fun x y => decide (x ≤ y)) = idsS S) := Lib.hid (mergeSort_of_perm (hperm.trans HPK.out.symm))
  rw [HID.out] at hrow
  have hlen : ss.length = S.length := by rw [hperm.length_eq, ← HPK.out.length_eq, List.length_map]
  rw [hlen] at hrow
  have hil := ids_len S
  obtain ⟨A2, c2, rfl, hr2, _, _⟩ := own_line (l := idsS S) (enc := fun x => [Proofs.encStr x]) (size := 1) (e := 9) (base := (w.alloc (.cells #[.map (some M)] 53)).heap.size) (w := w2) (v := v) (fun x _ => rfl) (by unfold Own; rw [hil, flat1]; exact hrow)
  have HR2 := Lib.hid hr2
  have hw2s := hw2.size
  clear hr2 hrow hperm hb2 HID hlen HPK HK HSO cB
  go_wp2_with fail
  go_loopw [5, 16] (fun u i wr => ∃ (k : Nat) (L : List Pl), k ≤ (idsS S).length ∧ i = .int .i64 k ∧ Hid (RowP w2.heap.size wr u L) ∧ Hid (L.map (·.1) = (((idsS S).take k).filterMap (getS S)).filter F) ∧ L.length ≤ k ∧ Below w2.heap.size w2 wr) (fun _ i _ => (idsS S).length - (intOf i).toNat)
  case atStart => exact ⟨0, [], Nat.zero_le _, rfl, RowP.nil _ _, Lib.hid rfl, Nat.le_refl _, Below.refl _ _⟩
  case round =>
    obtain ⟨k, L, hk, rfl, HROW, HMAP, hLk, hw3⟩ := hrel
    have z3 := hw3.size
    have hwr : Below w.heap.size w wr := stepH hw2 hw3
    by_cases hlt : k < (idsS S).length
    · obtain ⟨x, hx⟩ : ∃ x, (idsS S)[k]? = some x := ⟨(idsS S)[k], List.getElem?_eq_getElem hlt⟩
      obtain ⟨p, hp, hpx⟩ := ids_mem.1 (List.mem_of_getElem? hx)
      have hgx : getS S x = some p := by rw [← hpx]; exact getS_of HND.out hp
      have HST := Lib.hid (sel_step (F := F) hx hgx)
      obtain ⟨g, off, rfl, hg, hc⟩ := HR2.out k x hx
      have c0 : wr.cell? ⟨g, off + k, none⟩ = some (.string p.id) := by
        have := (hw3.cell (p := ⟨g, off + k * 1 + 0, none⟩) hg).trans (hc 0 _ rfl)
        rw [← hpx, enc_idb] at this
        simpa using this
      obtain ⟨A0, cc0, ha0, HF0⟩ := (HR.out.step hwr).find hp
      have HFF := Lib.hid HF0
      have HOr := Lib.hid (own_step HO.out hwr)
      have Br := keepH hwr BX.out
      have cBr := cellH Br
      have hpi := (HR.out.inn p hp).1
      have HA0 := Lib.hid ha0
      have hlt2 : (k : Int) < ((idsS S).length : Int) := by omega
      obtain ⟨lBr, lBr1, lBr2⟩ := ltH Br
      have HCF := Lib.hid (fun (W : World) (hb : Below wr.heap.size wr W) => HFN.out p hp A0 cc0 W (stepH hwr hb) (ha0.step hb))
      have HCC := Lib.hid (fun (W : World) (hb : Below wr.heap.size wr W) => pclone_new p A0 cc0 W (ha0.step hb) hpi.len)
      clear hx hpx hgx hc ha0 HF0 hg
      unfold pvV at *
      have HLk : L.length ≤ k := hLk
      cases hF : F p with
      | false =>
        rw [hF] at HST
        rw [hF] at HCF
        clear hF
        go_wp2_with (first
          | (at_lookup; refine wpList_lookup_is rfl _ _ _ _ rfl _ _ _ rfl rfl ((HFF.out _ S.length M HOr.out).2) ?_)
          | (go_at_fn gf; go_must (refine (HCF.out _ (by (repeat' (first | with_reducible exact Below.refl _ _ | with_reducible assumption | with_reducible refine Below.drew ?_ | with_reducible refine below_drewN ?_ _ | with_reducible refine Below.setCell ?_ ?_ _ | with_reducible refine Below.alloc ?_ ?_ _ | omega | (simp; done) | (simp; omega))))).mono ?_); rintro e w5 ⟨rfl, hb5⟩; have t5 : Below wr.heap.size wr w5 := stepH (by (repeat' (first | with_reducible exact Below.refl _ _ | with_reducible assumption | with_reducible refine Below.drew ?_ | with_reducible refine below_drewN ?_ _ | with_reducible refine Below.setCell ?_ ?_ _ | with_reducible refine Below.alloc ?_ ?_ _ | omega | (simp; done) | (simp; omega)))) hb5; have P5 := keepH hb5 (g := wr.heap.size) (blk_new rfl); have cP5 := cellH P5; clear hb5))
        go_roundw
        case rel => exact ⟨k + 1, L, by omega, by go_num, Lib.hid (HROW.out.step t5), Lib.hid (by rw [HST.out, HMAP.out]; simp), by omega, stepH hw3 t5⟩
        case measure => simp [intOf] <;> omega
      | true =>
        rw [hF] at HST
        rw [hF] at HCF
        clear hF
        go_wp2_with (first
          | (at_lookup; refine wpList_lookup_is rfl _ _ _ _ rfl _ _ _ rfl rfl ((HFF.out _ S.length M HOr.out).2) ?_)
          | (go_at_fn gf; go_must (refine (HCF.out _ (by (repeat' (first | with_reducible exact Below.refl _ _ | with_reducible assumption | with_reducible refine Below.drew ?_ | with_reducible refine below_drewN ?_ _ | with_reducible refine Below.setCell ?_ ?_ _ | with_reducible refine Below.alloc ?_ ?_ _ | omega | (simp; done) | (simp; omega))))).mono ?_); rintro e w5 ⟨rfl, hb5⟩; have t5 : Below wr.heap.size wr w5 := stepH (by (repeat' (first | with_reducible exact Below.refl _ _ | with_reducible assumption | with_reducible refine Below.drew ?_ | with_reducible refine below_drewN ?_ _ | with_reducible refine Below.setCell ?_ ?_ _ | with_reducible refine Below.alloc ?_ ?_ _ | omega | (simp; done) | (simp; omega)))) hb5; have P5 := keepH hb5 (g := wr.heap.size) (blk_new rfl); have cP5 := cellH P5; clear hb5))
        refine (HCC.out _ t5).mono ?_
        rintro e w6 ⟨⟨A', c', rfl, hpa, hna⟩, hb6⟩
        have t6 : Below wr.heap.size wr w6 := stepH t5 hb6
        have z6 := t6.size
        have z5 := t5.size
        have HPA := Lib.hid hpa
        have HNA := Lib.hid hna
        have HRW := Lib.hid (HROW.out.step t6)
        clear hb6 hpa hna P5 cP5
        go_wp2_with (at_builtin; go_must (refine wpList_append_lies _ rfl (.tmp 29) (.tmp 32) 22 rfl w2.heap.size 43 inf0 _ 15 168 Tryd.underlying22 hi jz0 jz1 jz2 rfl (by decide) _ L.length _ rfl (own_below HRW.out.own (by (repeat' (first | with_reducible exact Below.refl _ _ | with_reducible assumption | with_reducible refine Below.drew ?_ | with_reducible refine below_drewN ?_ _ | with_reducible refine Below.setCell ?_ ?_ _ | with_reducible refine Below.alloc ?_ ?_ _ | omega | (simp; done) | (simp; omega))))) ⟨w6.heap.size, 0, none⟩ 1 1 [.string p.id, .string p.key, .int .i64 p.s0, .int .i64 p.s1, .int .i64 p.ena, .int .i64 p.rank, .string p.rep, .int .i64 p.kind, .int .i64 p.n, .int .i64 p.d, .slice A' p.scale.length c', .string p.rule, .int .i64 p.mode, .int .i64 p.un, .int .i64 p.ud] rfl rfl (World.news_of_block (cs := #[.string p.id, .string p.key, .int .i64 p.s0, .int .i64 p.s1, .int .i64 p.ena, .int .i64 p.rank, .string p.rep, .int .i64 p.kind, .int .i64 p.n, .int .i64 p.d, .slice A' p.scale.length c', .string p.rule, .int .i64 p.mode, .int .i64 p.un, .int .i64 p.ud]) (blk_new rfl)) (by simp [Value.oneCell']) (by decide) (by unfold maxLen; omega) (by omega) (by simp; omega) _ rfl ?_); intro g9 c9 w9 hown9 hgrow9 hat9 hlt9)
        go_roundw
        case rel =>
          refine ⟨k + 1, L ++ [(p, A', c')], by omega, by go_num, Lib.hid ?_, Lib.hid (by rw [HST.out, List.map_append, HMAP.out]; rfl), by simp; omega, ?_⟩
          · have hb0 : Below w6.heap.size w6 (w6.alloc (.cells #[.string p.id, .string p.key, .int .i64 p.s0, .int .i64 p.s1, .int .i64 p.ena, .int .i64 p.rank, .string p.rep, .int .i64 p.kind, .int .i64 p.n, .int .i64 p.d, .slice A' p.scale.length c', .string p.rule, .int .i64 p.mode, .int .i64 p.un, .int .i64 p.ud] 43)) := by (repeat' (first | with_reducible exact Below.refl _ _ | with_reducible assumption | with_reducible refine Below.drew ?_ | with_reducible refine below_drewN ?_ _ | with_reducible refine Below.setCell ?_ ?_ _ | with_reducible refine Below.alloc ?_ ?_ _ | omega | (simp; done) | (simp; omega)))
            exact (HRW.out.step hb0).snoc (HPA.out.step hb0) (fun _ a ha e => by
              have h1 := HNA.out a ha
              have h2 := HROW.out.own.lt a.block e
              omega) hown9 rfl rfl hgrow9 hat9
          · exact Below.grown (Below.alloc (stepH hw3 t6) (by omega) _) hgrow9 (by simp; omega) (fun g hg => (HROW.out.own.lt g hg).1)
        case measure => simp [intOf] <;> omega
    · obtain rfl : k = (idsS S).length := by omega
      obtain ⟨A9, c9, rfl, h9, h9m, h9n, hpr⟩ := HROW.out.provs
      have hml : L.map (·.1) = sel F S := by rw [HMAP.out, List.take_length]; rfl
      have hln : L.length = (sel F S).length := by rw [← hml, List.length_map]
      rw [hml] at hpr
      rw [hln] at h9 ⊢
      have HPR := Lib.hid hpr
      have HB9 := Lib.hid hwr
      clear hpr HROW HMAP
      go_wp2_with fail
      refine (clipP_any A9 _ c9 _ h9 h9m h9n).mono ?_
      rintro e w10 ⟨rfl, rfl⟩
      go_wp2_with fail
      go_ret
      exact ⟨⟨A9, _, rfl, HPR.out⟩, HB9.out⟩
end Go.Proofs.YtngckppnaflciaaDoor
