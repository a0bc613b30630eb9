/- The law's walk. -/
import Derived.Test.YtngckppnaflciaaDoorBlF
import Derived.Test.YtngckppnaflciaaDoorEnvK
namespace Go.Proofs.YtngckppnaflciaaDoor
open Go.RowKit Go.Maps

def okB (p : Pv) : Bool := (validE p).isNone
/-- the numbers as Go holds them -/
def zs (ord : List Nat) : List Int := ord.map (fun (n : Nat) => (n : Int))
theorem zs_len (ord : List Nat) : (zs ord).length = ord.length := by unfold zs; rw [List.length_map]
theorem place_in (x : Int) (k : Nat) (hk : k ≤ 1000) : ∃ a : Nat, (wrap64 (wrap64 (x.tmod ((k : Int) + 1) + (k : Int)) + 1)).tmod ((k : Int) + 1) = (a : Int) ∧ a ≤ k := by
  have h1 := Int.tmod_lt_of_pos x (show (0 : Int) < (k : Int) + 1 by omega)
  have h2 := Int.lt_tmod_of_pos x (show (0 : Int) < (k : Int) + 1 by omega)
  have e1 : wrap64 (x.tmod ((k : Int) + 1) + (k : Int)) = x.tmod ((k : Int) + 1) + (k : Int) := by unfold wrap64; omega
  have e2 : wrap64 (x.tmod ((k : Int) + 1) + (k : Int) + 1) = x.tmod ((k : Int) + 1) + (k : Int) + 1 := by unfold wrap64; omega
  rw [e1, e2]
  have h3 := Int.tmod_lt_of_pos (x.tmod ((k : Int) + 1) + (k : Int) + 1) (show (0 : Int) < (k : Int) + 1 by omega)
  have h4 := Int.tmod_nonneg ((k : Int) + 1) (show (0 : Int) ≤ x.tmod ((k : Int) + 1) + (k : Int) + 1 by omega)
  exact ⟨((x.tmod ((k : Int) + 1) + (k : Int) + 1).tmod ((k : Int) + 1)).toNat, by omega, by omega⟩
theorem own_lower {α : Type} {enc : α → List Value} {size e base base' : Nat} {w : World} {v : Value} {l : List α} (h : Own enc size e base w v l) (hb : base' ≤ base) : Own enc size e base' w v l := by
  refine ⟨h.1, ?_⟩
  rcases h.2 with hn | ⟨g, cap, cur, hv, hbg, rest⟩
  · exact .inl hn
  · exact .inr ⟨g, cap, cur, hv, Nat.le_trans hb hbg, rest⟩
/-- provisions by their places -/
def pickL (l : List Pv) (ord : List Nat) : List Pv := ord.filterMap (fun j => l[j]?)
theorem pick_step {l : List Pv} {ord : List Nat} {k j : Nat} {p : Pv} (ho : ord[k]? = some j) (hp : l[j]? = some p) : pickL l (ord.take (k + 1)) = pickL l (ord.take k) ++ [p] := by
  unfold pickL
  rw [take_snoc ho, List.filterMap_append, List.filterMap_cons, hp, List.filterMap_nil]
theorem pick_len (l : List Pv) (ord : List Nat) : (pickL l ord).length ≤ ord.length := List.length_filterMap_le ..
theorem pick_ne {l : List Pv} {ord : List Nat} {k j : Nat} {p : Pv} (hn : (l.map idb).Nodup) (hno : ord.Nodup) (ho : ord[k]? = some j) (hp : l[j]? = some p) : ∀ q ∈ pickL l (ord.take k), idb q ≠ idb p := by
  intro q hq e
  obtain ⟨i, hi, hqi⟩ := List.mem_filterMap.1 hq
  have hij : i ≠ j := by
    rintro rfl
    obtain ⟨n, hn2, e2⟩ := List.mem_take_iff_getElem.1 hi
    have h1 : ord[n]? = some i := by rw [← e2]; exact List.getElem?_eq_getElem (by omega)
    have hk : k < ord.length := (List.getElem?_eq_some_iff.1 ho).1
    have := (List.getElem?_inj (by omega) hno).1 (h1.trans ho.symm)
    omega
  have hil : i < l.length := (List.getElem?_eq_some_iff.1 hqi).1
  have h1 : (l.map idb)[i]? = (l.map idb)[j]? := by rw [List.getElem?_map, List.getElem?_map, hqi, hp]; simp [e]
  have := (List.getElem?_inj (by simpa using hil) hn).1 h1
  exact hij this
theorem range_pick (l : List Pv) : pickL l (List.range l.length) = l := by
  unfold pickL
  have h : ∀ n, n ≤ l.length → (List.range n).filterMap (fun j => l[j]?) = l.take n := by
    intro n hn
    induction n with
    | zero => simp
    | succ n ih =>
      rw [List.range_succ, List.filterMap_append, ih (by omega), List.filterMap_cons, List.getElem?_eq_getElem (show n < l.length by omega), List.filterMap_nil, List.take_succ_eq_append_getElem (show n < l.length by omega)]
  rw [h _ (Nat.le_refl _), List.take_length]
theorem pick_perm (l : List Pv) {ord : List Nat} (h : ord.Perm (List.range l.length)) : (pickL l ord).Perm l := by
  have := h.filterMap (fun j => l[j]?)
  rw [show (List.range l.length).filterMap (fun j => l[j]?) = l from range_pick l] at this
  exact this
theorem set_told {l : List Pv} {T : List Bool} {k : Nat} {p : Pv} {b : Bool} (h : ∀ j, j < k → ∀ p, l[j]? = some p → T[j]? = some (okB p)) (hp : l[k]? = some p) (hb : okB p = b) (hk : k < T.length) : ∀ j, j < k + 1 → ∀ p, l[j]? = some p → (T.set k b)[j]? = some (okB p) := by
  intro j hj q hq
  by_cases e : k = j
  · subst e
    rw [hp] at hq; injection hq with hq; subst hq
    rw [List.getElem?_set_self (by omega), hb]
  · rw [List.getElem?_set_ne e]
    exact h j (by omega) q hq
theorem only_wide {L L' : List Nat} {w w' : World} (h : OnlyL L w w') (hs : ∀ k ∈ L, k ∈ L') : OnlyL L' w w' := ⟨h.os, h.tape, h.output, h.size, fun k hk hn => h.block k hk (fun e => hn (hs k e))⟩
theorem zs_ins (ord : List Nat) (a k : Nat) : zs (insAt ord a k) = (zs ord).take a ++ [(k : Int)] ++ (zs ord).drop a := by
  unfold zs insAt
  rw [List.map_append, List.map_append, List.map_take, List.map_drop]; rfl

set_option maxRecDepth 100000 in
set_option maxHeartbeats 32000000 in
theorem anyorder_any (l : List Pv) (A : Option Addr) (c : Nat) (l1 : List Int) (B : Option Addr) (d : Nat) (day : Int) (s : ByteArray) (E : Nat → Addr) (m : Int) (w : World) (hl : ProvsAt w w.heap.size A l) (hm : l.length ≤ 9223372036854775807) (hI : ∀ p ∈ l, PvW p)
    (hl1 : RowAt encZ 1 w w.heap.size B l1) (hm1 : l1.length ≤ 9223372036854775807) (hI1 : ∀ x ∈ l1, In8 x) (hE : Env LB E w) (hM : w.cell? ⟨12, 0, none⟩ = some (.int .i64 m)) :
    Calls Tryd.prog 3 #[.slice A l.length c, .slice B l1.length d, .int .i64 day, .string s] w fun e w' => e = .returned (.bool true) ∧ Below w.heap.size w w' := by
  obtain ⟨inf0, hi, jz0, jz1, jz2⟩ := info_parts infoI
  have HL := Lib.hid hl
  have HL1 := Lib.hid hl1
  have HI := Lib.hid hI
  have HI1 := Lib.hid hI1
  have HE := Lib.hid hE
  have HM := Lib.hid hM
  clear hl hl1 hI hI1 hE hM
  go_enter Tryd.func3, Tryd.ntmps3
  go_wp2_with fail
  refine (first8_any E m _ HE.out HM.out).mono ?_
  rintro e w1 ⟨rfl, hb1⟩
  go_wp2_with fail
  refine (unlike_any l A c _ (HL.out.step hb1) hm HI.out).mono ?_
  rintro e w2 ⟨⟨A2, c2, l2, rfl, hp2, hn2, h200, hw2⟩, hb2⟩
  replace hb2 := stepH hb1 hb2
  have HP2 := Lib.hid hp2
  have HN2 := Lib.hid hn2
  have HW2 := Lib.hid hw2
  have z2 := hb2.size
  clear hp2 hn2 hw2 hb1
  by_cases hs : 1000 < s.size
  · have e1 : decide ((1000 : Int) < (s.size : Int)) = true := decide_eq_true (by omega)
    go_wp2_with fail
    go_ret
    exact ⟨rfl, hb2⟩
  · have e1 : decide ((1000 : Int) < (s.size : Int)) = false := decide_eq_false (by omega)
    go_wp2_with fail
    go_loopw [10, 11] (fun u i wr => ∃ (k : Nat) (ord : List Nat), k ≤ l2.length ∧ i = .int .i64 k ∧ Hid (Own encZ 1 3 w.heap.size wr u (zs ord)) ∧ Hid (ord.Perm (List.range k)) ∧ Below w2.heap.size w2 wr) (fun _ i _ => l2.length - (intOf i).toNat)
    case atStart => exact ⟨0, [], Nat.zero_le _, rfl, Lib.hid (show Own encZ 1 3 w.heap.size w2 (.slice none 0 0) (zs []) from Own.nil), Lib.hid (List.Perm.refl _), Below.refl _ _⟩
    case round =>
      obtain ⟨k, ord, hk, rfl, HO, HPM, hw3⟩ := hrel
      have z3 := hw3.size
      have hlo : (zs ord).length = k := by rw [zs_len, HPM.out.length_eq, List.length_range]
      obtain ⟨A3, c3, hu3, hc3, hc3m, hr3⟩ := Own.rows (fun x _ => encZ_len x) HO.out
      have hA3 : A3 = none → c3 = 0 := by
        obtain ⟨A', c', hv', _, hA', _⟩ := own_line (fun x _ => encZ_len x) HO.out
        rw [hu3] at hv'
        injection hv' with q1 q2 q3
        subst q1 q3; exact hA'
      subst hu3
      rw [hlo] at hc3 ⊢
      replace hc3m : c3 ≤ 9223372036854775807 := by unfold maxLen at hc3m; omega
      have HR3 := Lib.hid hr3
      clear hr3
      by_cases hlt : k < l2.length
      · have hlt2 : (k : Int) < (l2.length : Int) := by omega
        by_cases hpl : k < l1.length
        · have hpl2 : (k : Int) < (l1.length : Int) := by omega
          obtain ⟨x, hx⟩ : ∃ x, l1[k]? = some x := ⟨l1[k], List.getElem?_eq_getElem hpl⟩
          obtain ⟨g1, off1, rfl, hg1, k1⟩ := cellZ (HL1.out.below (stepH hb2 hw3) (Nat.le_refl _)) hx
          clear hx
          go_upto_region 12 with fail
          obtain ⟨a, ha, hak⟩ := place_in x k (by omega)
          rw [ha]
          clear ha k1
          have g1 : (0 : Int) ≤ (a : Int) := by omega
          have g2 : ((a : Nat) : Int) ≤ (c3 : Int) := by omega
          have g3 : ((a : Nat) : Int) ≤ (k : Int) := by omega
          obtain ⟨la, hla⟩ : ∃ x, (zs ord).take a = x := ⟨_, rfl⟩
          have hlal : la.length = a := by rw [← hla, List.length_take]; omega
          have hla2 : RowAt encZ 1 wr wr.heap.size A3 la := by rw [← hla]; exact HR3.out.take a
          obtain ⟨ld, hld⟩ : ∃ x, (zs ord).drop a = x := ⟨_, rfl⟩
          have hldl : ld.length = k - a := by rw [← hld, List.length_drop, hlo]
          obtain ⟨AK, hAK⟩ : ∃ x, (if c3 = a then A3 else A3.map (·.add a)) = x := ⟨_, rfl⟩
          have hld2 : RowAt encZ 1 wr wr.heap.size AK ld := by
            have h9 := HR3.out.drop a c3 (by omega)
            rw [Nat.mul_one] at h9
            rw [← hld, ← hAK]; exact h9
          have hAKn : AK = none → ld.length = 0 ∧ c3 - a = 0 := by
            intro hn
            have h9 : A3 = none := by
              rw [← hAK] at hn
              split at hn
              · exact hn
              · simpa using hn
            have := hA3 h9
            omega
          have HLA := Lib.hid hla2
          have HLD := Lib.hid hld2
          have HZI := Lib.hid (zs_ins ord a k)
          have HLAE := Lib.hid hla
          have HLDE := Lib.hid hld
          have HAKN := Lib.hid hAKn
          clear hla hld hla2 hld2 hAKn
          go_wp2_with fail
          have HIA := Lib.hid (ints_any la A3 c3 wr HLA.out (by omega))
          rw [hlal] at HIA
          refine HIA.out.mono ?_
          rintro e w4 ⟨⟨v4, rfl, hown4⟩, hb4⟩
          have HF := Lib.hid (fun (w9 : World) (h : Below wr.heap.size wr w9) => rowFlat encZ_len (by decide) (HLD.out.below h (Nat.le_refl _)))
          have hb4' : Below wr.heap.size wr w4 := hb4
          have z4 := hb4.size
          have HO4 := Lib.hid hown4
          clear hown4
          have hfl : (ld.flatMap encZ).length = ld.length * 1 := flat_len (fun x _ => encZ_len x)
          have hfo : ∀ u ∈ ld.flatMap encZ, u.oneCell' = true := by
            intro u hu
            obtain ⟨x, _, hx⟩ := List.mem_flatMap.1 hu
            simp [encZ] at hx; subst hx; rfl
          have HFL := Lib.hid hfl
          have HFO := Lib.hid hfo
          clear hfl hfo
          go_wp2_with (first
            | (at_builtin; (refine wpList_append_own _ rfl (.tmp 60) (.tmp 62) 23 rfl wr.heap.size 3 inf0 _ 1 8 Tryd.underlying23 hi jz0 jz1 jz2 rfl (by decide) _ la.length _ rfl (own_below HO4.out (by (repeat' (first | with_reducible exact Below.refl _ _ | with_reducible assumption | with_reducible refine Below.drew ?_ | with_reducible refine below_drewN ?_ _ | with_reducible refine Below.setCell ?_ ?_ _ | with_reducible refine Below.alloc ?_ ?_ _ | omega | (simp; done) | (simp; omega))))) ⟨w4.heap.size, 0, none⟩ 1 1 [.int .i64 k] rfl rfl (World.news_of_block (cs := #[.int .i64 k]) (blk_new rfl)) (by simp [Value.oneCell']) (by unfold maxLen; omega) (by omega) (by first | omega | (simp; omega)) ?_); intro v5 w5 hown5 hgrow5 _; have hb5 : Below wr.heap.size wr w5 := Below.grown (by (repeat' (first | with_reducible exact Below.refl _ _ | with_reducible assumption | with_reducible refine Below.drew ?_ | with_reducible refine below_drewN ?_ _ | with_reducible refine Below.setCell ?_ ?_ _ | with_reducible refine Below.alloc ?_ ?_ _ | omega | (simp; done) | (simp; omega)))) hgrow5 (by first | omega | (simp; omega)) (fun g hg => (HO4.out.lt g hg).1); have HO5 := Lib.hid hown5; have z5 := hb5.size; clear hown5 hgrow5)
            | (at_builtin; go_must (refine wpList_append_any rfl (.tmp 64) (.tmp 67) 23 rfl wr.heap.size 3 inf0 _ 1 8 Tryd.underlying23 hi jz0 jz1 jz2 rfl (by decide) _ (la.length + 1) _ rfl HO5.out AK (k - a) (c3 - a) (ld.flatMap encZ) rfl (by rw [HFL.out, hldl] <;> omega) (HF.out _ hb5) (fun h => by have := HAKN.out h; omega) HFO.out (by unfold maxLen; omega) (by omega) (by omega) ?_); intro v6 w6 hown6 hgrow6))
          go_roundw
          case rel =>
            refine ⟨k + 1, insAt ord a k, by omega, by go_num, Lib.hid ?_, Lib.hid (insAt_perm HPM.out a), hw3.trans ((Below.grown hb5 hgrow6 (by omega) (fun g hg => (HO5.out.lt g hg).1)).mono z3)⟩
            rw [HZI.out, HLAE.out, HLDE.out]
            have h9 : Own encZ 1 3 wr.heap.size w6 v6 (la ++ [(k : Int)] ++ ld) := by
              unfold Own
              rw [List.length_append, List.length_append, List.flatMap_append, List.flatMap_append, List.length_singleton]
              simpa [encZ, hldl] using hown6
            exact own_lower h9 (by omega)
          case measure => simp [intOf] <;> omega
        · have hpl2 : ¬ (k : Int) < (l1.length : Int) := by omega
          have g1 : (0 : Int) ≤ (k : Int) := by omega
          have g2 : ((k : Nat) : Int) ≤ (c3 : Int) := by omega
          have g3 : ((k : Nat) : Int) ≤ (k : Int) := by omega
          obtain ⟨la, hla⟩ : ∃ x, (zs ord).take k = x := ⟨_, rfl⟩
          have hlal : la.length = k := by rw [← hla, List.length_take]; omega
          have hla2 : RowAt encZ 1 wr wr.heap.size A3 la := by rw [← hla]; exact HR3.out.take k
          obtain ⟨ld, hld⟩ : ∃ x, (zs ord).drop k = x := ⟨_, rfl⟩
          have hldl : ld.length = k - k := by rw [← hld, List.length_drop, hlo]
          obtain ⟨AK, hAK⟩ : ∃ x, (if c3 = k then A3 else A3.map (·.add k)) = x := ⟨_, rfl⟩
          have hld2 : RowAt encZ 1 wr wr.heap.size AK ld := by
            have h9 := HR3.out.drop k c3 (by omega)
            rw [Nat.mul_one] at h9
            rw [← hld, ← hAK]; exact h9
          have hAKn : AK = none → ld.length = 0 ∧ c3 - k = 0 := by
            intro hn
            have h9 : A3 = none := by
              rw [← hAK] at hn
              split at hn
              · exact hn
              · simpa using hn
            have := hA3 h9
            omega
          have HLA := Lib.hid hla2
          have HLD := Lib.hid hld2
          have HZI := Lib.hid (zs_ins ord k k)
          have HLAE := Lib.hid hla
          have HLDE := Lib.hid hld
          have HAKN := Lib.hid hAKn
          clear hla hld hla2 hld2 hAKn
          go_wp2_with fail
          have HIA := Lib.hid (ints_any la A3 c3 wr HLA.out (by omega))
          rw [hlal] at HIA
          refine HIA.out.mono ?_
          rintro e w4 ⟨⟨v4, rfl, hown4⟩, hb4⟩
          have HF := Lib.hid (fun (w9 : World) (h : Below wr.heap.size wr w9) => rowFlat encZ_len (by decide) (HLD.out.below h (Nat.le_refl _)))
          have hb4' : Below wr.heap.size wr w4 := hb4
          have z4 := hb4.size
          have HO4 := Lib.hid hown4
          clear hown4
          have hfl : (ld.flatMap encZ).length = ld.length * 1 := flat_len (fun x _ => encZ_len x)
          have hfo : ∀ u ∈ ld.flatMap encZ, u.oneCell' = true := by
            intro u hu
            obtain ⟨x, _, hx⟩ := List.mem_flatMap.1 hu
            simp [encZ] at hx; subst hx; rfl
          have HFL := Lib.hid hfl
          have HFO := Lib.hid hfo
          clear hfl hfo
          go_wp2_with (first
            | (at_builtin; (refine wpList_append_own _ rfl (.tmp 60) (.tmp 62) 23 rfl wr.heap.size 3 inf0 _ 1 8 Tryd.underlying23 hi jz0 jz1 jz2 rfl (by decide) _ la.length _ rfl (own_below HO4.out (by (repeat' (first | with_reducible exact Below.refl _ _ | with_reducible assumption | with_reducible refine Below.drew ?_ | with_reducible refine below_drewN ?_ _ | with_reducible refine Below.setCell ?_ ?_ _ | with_reducible refine Below.alloc ?_ ?_ _ | omega | (simp; done) | (simp; omega))))) ⟨w4.heap.size, 0, none⟩ 1 1 [.int .i64 k] rfl rfl (World.news_of_block (cs := #[.int .i64 k]) (blk_new rfl)) (by simp [Value.oneCell']) (by unfold maxLen; omega) (by omega) (by first | omega | (simp; omega)) ?_); intro v5 w5 hown5 hgrow5 _; have hb5 : Below wr.heap.size wr w5 := Below.grown (by (repeat' (first | with_reducible exact Below.refl _ _ | with_reducible assumption | with_reducible refine Below.drew ?_ | with_reducible refine below_drewN ?_ _ | with_reducible refine Below.setCell ?_ ?_ _ | with_reducible refine Below.alloc ?_ ?_ _ | omega | (simp; done) | (simp; omega)))) hgrow5 (by first | omega | (simp; omega)) (fun g hg => (HO4.out.lt g hg).1); have HO5 := Lib.hid hown5; have z5 := hb5.size; clear hown5 hgrow5)
            | (at_builtin; go_must (refine wpList_append_any rfl (.tmp 64) (.tmp 67) 23 rfl wr.heap.size 3 inf0 _ 1 8 Tryd.underlying23 hi jz0 jz1 jz2 rfl (by decide) _ (la.length + 1) _ rfl HO5.out AK 0 (c3 - k) (ld.flatMap encZ) rfl (by rw [HFL.out, hldl] <;> omega) (HF.out _ hb5) (fun h => by have := HAKN.out h; omega) HFO.out (by unfold maxLen; omega) (by omega) (by omega) ?_); intro v6 w6 hown6 hgrow6))
          go_roundw
          case rel =>
            refine ⟨k + 1, insAt ord k k, by omega, by go_num, Lib.hid ?_, Lib.hid (insAt_perm HPM.out k), hw3.trans ((Below.grown hb5 hgrow6 (by omega) (fun g hg => (HO5.out.lt g hg).1)).mono z3)⟩
            rw [HZI.out, HLAE.out, HLDE.out]
            have h9 : Own encZ 1 3 wr.heap.size w6 v6 (la ++ [(k : Int)] ++ ld) := by
              unfold Own
              rw [List.length_append, List.length_append, List.flatMap_append, List.flatMap_append, List.length_singleton]
              simpa [encZ, hldl] using hown6
            exact own_lower h9 (by omega)
          case measure => simp [intOf] <;> omega
      · obtain rfl : k = l2.length := by omega
        have hlt2 : ¬ (l2.length : Int) < (l2.length : Int) := by omega
        have hwr := stepH hb2 hw3
        obtain ⟨w3, rfl⟩ : ∃ x : World, x = wr := ⟨_, rfl⟩
        have HP3 := Lib.hid (HP2.out.step hw3)
        obtain ⟨ib, hib, bz0, bz1, bz2⟩ := info_parts infoBo
        have hmk : ∀ W : World, (Instr.makeSlice 29 (.int .i64 (l2.length : Int)) (.int .i64 (l2.length : Int))).run Tryd.prog W = .ok (.slice (some ⟨W.heap.size, 0, none⟩) l2.length l2.length) (W.alloc (.cells (boolC (List.replicate l2.length false)) 4)) := by
          intro W
          have h := run_make (P := Tryd.prog) (w := W) 29 4 ib _ Tryd.underlying29 hib bz0 .i64 .i64 (l2.length : Int) (l2.length : Int) (by omega) (Int.le_refl _) (by rw [bz2]; omega) (by omega)
          rw [bz1, Nat.mul_one, show (Value.bool false).cells = #[.bool false] from rfl, made_bools, Int.toNat_natCast] at h
          exact h
        clear HL HL1 HI HI1 hm hm1 jz0 jz1 jz2 hi hA3 hw3 hk hlt
        go_wp2_with fail
        refine (new_any w3).mono ?_
        rintro e w5 ⟨a, Ma, rfl, hba, hla, hlma, hb5⟩
        go_wp2_with fail
        refine (new_any w5).mono ?_
        rintro e w6 ⟨b, Mb, rfl, hbb, hlb, hlmb, hb6⟩
        have hw6 : Below w3.heap.size w3 w6 := stepH hb5 hb6
        have HBA6 := Lib.hid (hba.step hb6)
        have HBB6 := Lib.hid hbb
        have z5 := hb5.size
        have z6 := hb6.size
        have z3w := hwr.size
        have hMne : Ma ≠ Mb := by have := hba.lt.2; omega
        have hab := HBA6.out.lt
        have hbb2 := HBB6.out.lt
        clear hba hbb hb5 hb6
        go_wp2_with fail
        have hw7 : Below w6.heap.size w6 (w6.alloc (.cells (boolC (List.replicate l2.length false)) 4)) := by (repeat' (first | with_reducible exact Below.refl _ _ | with_reducible assumption | with_reducible refine Below.drew ?_ | with_reducible refine below_drewN ?_ _ | with_reducible refine Below.setCell ?_ ?_ _ | with_reducible refine Below.alloc ?_ ?_ _ | omega | (simp; done) | (simp; omega)))
        have HT : Hid ((w6.alloc (.cells (boolC (List.replicate l2.length false)) 4)).heap[w6.heap.size]? = some (.cells (boolC (List.replicate l2.length false)) 4 (0, 0))) := Lib.hid (blk_new rfl)
        have HBA := Lib.hid (HBA6.out.step hw7)
        have HBB := Lib.hid (HBB6.out.step hw7)
        have HP7 : Hid (ProvsAt (w6.alloc (.cells (boolC (List.replicate l2.length false)) 4)) w6.heap.size A2 l2) := Lib.hid ((HP3.out.below (stepH hw6 hw7) (Nat.le_refl _)).more hw6.size)
        have HOR : Hid (RowAt encZ 1 (w6.alloc (.cells (boolC (List.replicate l2.length false)) 4)) w6.heap.size A3 (zs ord)) := Lib.hid ((HR3.out.below (stepH hw6 hw7) (Nat.le_refl _)).more hw6.size)
        have hww7 : Below w.heap.size w (w6.alloc (.cells (boolC (List.replicate l2.length false)) 4)) := stepH hwr (stepH hw6 hw7)
        have z7 : w6.heap.size < (w6.alloc (.cells (boolC (List.replicate l2.length false)) 4)).heap.size := by simp
        obtain ⟨tb, htb⟩ : ∃ tb, w6.heap.size = tb := ⟨_, rfl⟩
        rw [htb] at HT HP7 HOR hab hbb2 z7 z6 ⊢
        have hmA := HBA.out.isMap
        have hmB := HBB.out.isMap
        clear HBA6 HBB6 HP3 HR3 hw7 hw6 hmk HP2
        generalize (w6.alloc (.cells (boolC (List.replicate l2.length false)) 4)) = w7 at *
        have HBW := Lib.hid (fun (W : World) (ho : OnlyL [Ma, Mb, tb] w7 W) => hww7.trans (ho.below (by have := hww7.size; omega) (fun k hk => by simp at hk; omega)))
        go_loopw [17] (fun i wr => ∃ (k : Nat) (T : List Bool), k ≤ l2.length ∧ i = .int .i64 k ∧ T.length = l2.length ∧ Hid (∀ j, j < k → ∀ p, l2[j]? = some p → T[j]? = some (okB p)) ∧ Hid (wr.heap[tb]? = some (.cells (boolC T) 4 (0, 0))) ∧ Hid (BookAt wr a Ma false ((l2.take k).filter okB)) ∧ Hid (BookAt wr b Mb false []) ∧ OnlyL [Ma, Mb, tb] w7 wr) (fun i _ => l2.length - (intOf i).toNat)
        case atStart => exact ⟨0, _, Nat.zero_le _, rfl, List.length_replicate .., Lib.hid (fun j h => by omega), HT, HBA, HBB, OnlyL.refl _ _⟩
        case round =>
          obtain ⟨k, T, hk, rfl, hTl, HTJ, HTB, HA, HB, ho⟩ := hrel
          have z8 := ho.size
          by_cases hlt : k < l2.length
          · have hlt3 : (k : Int) < (l2.length : Int) := by omega
            obtain ⟨p, hx⟩ : ∃ x, l2[k]? = some x := ⟨l2[k], List.getElem?_eq_getElem hlt⟩
            have hpw := HW2.out p (List.mem_of_getElem? hx)
            have HAH := Lib.hid (ahead_ne HN2.out hx)
            have HX := Lib.hid hx
            obtain ⟨g, off, F, cF, rfl, hg, ca, pa⟩ := (provs_keep ho hmA hmB HP7.out) k p hx
            have q0 : wr.cell? ⟨g, off + k * 15, none⟩ = some (.string p.id) := ca 0 _ rfl
            have q1 : wr.cell? ⟨g, off + k * 15 + 1, none⟩ = some (.string p.key) := ca 1 _ rfl
            have q2 : wr.cell? ⟨g, off + k * 15 + 2, none⟩ = some (.int .i64 p.s0) := ca 2 _ rfl
            have q3 : wr.cell? ⟨g, off + k * 15 + 3, none⟩ = some (.int .i64 p.s1) := ca 3 _ rfl
            have q4 : wr.cell? ⟨g, off + k * 15 + 4, none⟩ = some (.int .i64 p.ena) := ca 4 _ rfl
            have q5 : wr.cell? ⟨g, off + k * 15 + 5, none⟩ = some (.int .i64 p.rank) := ca 5 _ rfl
            have q6 : wr.cell? ⟨g, off + k * 15 + 6, none⟩ = some (.string p.rep) := ca 6 _ rfl
            have q7 : wr.cell? ⟨g, off + k * 15 + 7, none⟩ = some (.int .i64 p.kind) := ca 7 _ rfl
            have q8 : wr.cell? ⟨g, off + k * 15 + 8, none⟩ = some (.int .i64 p.n) := ca 8 _ rfl
            have q9 : wr.cell? ⟨g, off + k * 15 + 9, none⟩ = some (.int .i64 p.d) := ca 9 _ rfl
            have q10 : wr.cell? ⟨g, off + k * 15 + 10, none⟩ = some (.slice F p.scale.length cF) := ca 10 _ rfl
            have q11 : wr.cell? ⟨g, off + k * 15 + 11, none⟩ = some (.string p.rule) := ca 11 _ rfl
            have q12 : wr.cell? ⟨g, off + k * 15 + 12, none⟩ = some (.int .i64 p.mode) := ca 12 _ rfl
            have q13 : wr.cell? ⟨g, off + k * 15 + 13, none⟩ = some (.int .i64 p.un) := ca 13 _ rfl
            have q14 : wr.cell? ⟨g, off + k * 15 + 14, none⟩ = some (.int .i64 p.ud) := ca 14 _ rfl
            have HPA := Lib.hid (pa.more (show tb ≤ wr.heap.size by omega))
            have hwr2 := HBW.out wr ho
            have hTk : ∃ x, T[k]? = some x := ⟨T[k]'(by omega), List.getElem?_eq_getElem _⟩
            clear ca hx pa
            cases hv : validE p with
            | some v =>
              have hne := fun W => eql_nil (E v) W
              go_wp2_with fail
              refine (register_bad a Ma _ p F cF v E m wr HA.out (HE.out.below hwr2) (cell_at HM.out hwr2) hpw HPA.out hv).mono ?_
              rintro e w8 ⟨rfl, hb8⟩
              have HTB8 := keepH hb8 HTB.out
              have fT := frozH HTB8
              obtain ⟨y, hy⟩ := hTk
              have cT : w8.cell? ⟨tb, k, none⟩ = some (.bool y) := bool_at HTB8.out hy
              have lT := lt_of_H HTB8
              have z9 := hb8.size
              have HB8 := Lib.hid hb8
              clear hb8 q0 q1 q2 q3 q4 q5 q6 q7 q8 q9 q10 q11 q12 q13 q14
              rw [errB_some]
              go_wp2_with fail
              go_roundw
              case rel =>
                refine ⟨k + 1, T.set k false, by omega, by go_num, by rw [List.length_set]; exact hTl, Lib.hid ?_, Lib.hid (bool_set HTB8.out k false), Lib.hid ?_, Lib.hid (BookAt.setB (HB.out.step HB8.out) HTB8.out), ?_⟩
                · exact set_told HTJ.out HX.out (by unfold okB; rw [hv]; rfl) (by omega)
                · rw [take_snoc HX.out, List.filter_append, List.filter_cons, if_neg (by unfold okB; rw [hv]; simp), List.filter_nil, List.append_nil]
                  exact BookAt.setB (HA.out.step HB8.out) HTB8.out
                · exact (ho.trans ⟨HB8.out.os, HB8.out.tape, HB8.out.output, HB8.out.size, fun k hk _ => HB8.out.block k hk⟩).setCell (.inl (by simp)) _
              case measure => simp [intOf] <;> omega
            | none =>
              obtain ⟨hpi, hid⟩ := valid_in hpw hv
              have hlS : ((l2.take k).filter okB).length ≤ 200 := Nat.le_trans (List.length_filter_le ..) (by rw [List.length_take]; omega)
              go_wp2_with fail
              refine (register_new a Ma _ p F cF E m wr HA.out (HE.out.below hwr2) (cell_at HM.out hwr2) hpi HPA.out hv (fun q hq => ne_id (HAH.out q (List.mem_filter.1 hq).1)) (by omega) (by unfold maxLen; omega)).mono ?_
              rintro e w8 ⟨rfl, hA8, ho8⟩
              have HTB8 := Lib.hid (heap_only HTB.out ho8 HA.out.isMap)
              have fT := frozH HTB8
              obtain ⟨y, hy⟩ := hTk
              have cT : w8.cell? ⟨tb, k, none⟩ = some (.bool y) := bool_at HTB8.out hy
              have lT := lt_of_H HTB8
              have z9 := ho8.size
              have HA8 := Lib.hid hA8
              have HO8 := Lib.hid ho8
              clear ho8 hA8 q0 q1 q2 q3 q4 q5 q6 q7 q8 q9 q10 q11 q12 q13 q14
              go_wp2_with fail
              go_roundw
              case rel =>
                refine ⟨k + 1, T.set k true, by omega, by go_num, by rw [List.length_set]; exact hTl, Lib.hid ?_, Lib.hid (bool_set HTB8.out k true), Lib.hid ?_, Lib.hid (BookAt.setB (HB.out.only HA.out (fun e => hMne e.symm) HO8.out) HTB8.out), ?_⟩
                · exact set_told HTJ.out HX.out (by unfold okB; rw [hv]; rfl) (by omega)
                · rw [take_snoc HX.out, List.filter_append, List.filter_cons, if_pos (by unfold okB; rw [hv]; simp), List.filter_nil]
                  exact BookAt.setB HA8.out HTB8.out
                · exact (ho.trans (only_wide HO8.out (by simp))).setCell (.inl (by simp)) _
              case measure => simp [intOf] <;> omega
          · obtain rfl : k = l2.length := by omega
            have hlt3 : ¬ (l2.length : Int) < (l2.length : Int) := by omega
            have HA3 : Hid (BookAt wr a Ma false (l2.filter okB)) := Lib.hid (by have := HA.out; rwa [List.take_length] at this)
            have HTA : Hid (∀ j p, l2[j]? = some p → T[j]? = some (okB p)) := Lib.hid (fun j p h => HTJ.out j (List.getElem?_eq_some_iff.1 h).1 p h)
            obtain ⟨w9, rfl⟩ : ∃ x : World, x = wr := ⟨_, rfl⟩
            clear HTJ HA hlt3 hlt2
            go_wp2_with fail
            go_loopw [19] (fun i wr => ∃ k : Nat, k ≤ l2.length ∧ i = .int .i64 k ∧ Hid (wr.heap[tb]? = some (.cells (boolC T) 4 (0, 0))) ∧ Hid (BookAt wr a Ma false (l2.filter okB)) ∧ Hid (BookAt wr b Mb false ((pickL l2 (ord.take k)).filter okB)) ∧ OnlyL [Ma, Mb, tb] w7 wr) (fun i _ => l2.length - (intOf i).toNat)
            case atStart => exact ⟨0, Nat.zero_le _, rfl, HTB, HA3, HB, ho⟩
            case round =>
              obtain ⟨k, hk, rfl, HTC, HAC, HBC, ho2⟩ := hrel
              have zA := ho2.size
              clear hlt
              by_cases hlt : k < l2.length
              · have hlt3 : (k : Int) < (l2.length : Int) := by omega
                have hlen : ord.length = l2.length := by rw [← zs_len]; exact hlo
                obtain ⟨j, hoj⟩ : ∃ x, ord[k]? = some x := ⟨ord[k]'(by omega), List.getElem?_eq_getElem _⟩
                have hjn : j < l2.length := by
                  have := HPM.out.mem_iff.1 (List.mem_of_getElem? hoj)
                  exact List.mem_range.1 this
                obtain ⟨p, hx⟩ : ∃ x, l2[j]? = some x := ⟨l2[j], List.getElem?_eq_getElem hjn⟩
                have hpw := HW2.out p (List.mem_of_getElem? hx)
                have HPK := Lib.hid (pick_step (l := l2) hoj hx)
                have HNE := Lib.hid (pick_ne (l := l2) HN2.out (HPM.out.nodup_iff.2 List.nodup_range) hoj hx)
                obtain ⟨go, offo, hgo, _, co⟩ := cellZ (k := k) (b := (j : Int)) (row_keep ho2 hmA hmB HOR.out) (by unfold zs; rw [List.getElem?_map, hoj]; rfl)
                subst hgo
                obtain ⟨g, off, F, cF, rfl, hg, ca, pa⟩ := (provs_keep ho2 hmA hmB HP7.out) j p hx
                have q0 : wr.cell? ⟨g, off + j * 15, none⟩ = some (.string p.id) := ca 0 _ rfl
                have q1 : wr.cell? ⟨g, off + j * 15 + 1, none⟩ = some (.string p.key) := ca 1 _ rfl
                have q2 : wr.cell? ⟨g, off + j * 15 + 2, none⟩ = some (.int .i64 p.s0) := ca 2 _ rfl
                have q3 : wr.cell? ⟨g, off + j * 15 + 3, none⟩ = some (.int .i64 p.s1) := ca 3 _ rfl
                have q4 : wr.cell? ⟨g, off + j * 15 + 4, none⟩ = some (.int .i64 p.ena) := ca 4 _ rfl
                have q5 : wr.cell? ⟨g, off + j * 15 + 5, none⟩ = some (.int .i64 p.rank) := ca 5 _ rfl
                have q6 : wr.cell? ⟨g, off + j * 15 + 6, none⟩ = some (.string p.rep) := ca 6 _ rfl
                have q7 : wr.cell? ⟨g, off + j * 15 + 7, none⟩ = some (.int .i64 p.kind) := ca 7 _ rfl
                have q8 : wr.cell? ⟨g, off + j * 15 + 8, none⟩ = some (.int .i64 p.n) := ca 8 _ rfl
                have q9 : wr.cell? ⟨g, off + j * 15 + 9, none⟩ = some (.int .i64 p.d) := ca 9 _ rfl
                have q10 : wr.cell? ⟨g, off + j * 15 + 10, none⟩ = some (.slice F p.scale.length cF) := ca 10 _ rfl
                have q11 : wr.cell? ⟨g, off + j * 15 + 11, none⟩ = some (.string p.rule) := ca 11 _ rfl
                have q12 : wr.cell? ⟨g, off + j * 15 + 12, none⟩ = some (.int .i64 p.mode) := ca 12 _ rfl
                have q13 : wr.cell? ⟨g, off + j * 15 + 13, none⟩ = some (.int .i64 p.un) := ca 13 _ rfl
                have q14 : wr.cell? ⟨g, off + j * 15 + 14, none⟩ = some (.int .i64 p.ud) := ca 14 _ rfl
                have HPA := Lib.hid (pa.more (show tb ≤ wr.heap.size by omega))
                have HOB := Lib.hid (HTA.out j p hx)
                have hwr2 := HBW.out wr ho2
                have lgo : go < wr.heap.size := cell_lt co
                have j1 : (0 : Int) ≤ (j : Int) := by omega
                have j2 : (j : Int) < (l2.length : Int) := by omega
                have j3 : ((j : Int)).toNat = j := by omega
                clear ca hx pa hoj
                cases hv : validE p with
                | some v =>
                  have hne := fun W => eql_nil (E v) W
                  have hok : okB p = false := by unfold okB; rw [hv]; rfl
                  go_wp2_with fail
                  refine (register_bad b Mb _ p F cF v E m wr HBC.out (HE.out.below hwr2) (cell_at HM.out hwr2) hpw HPA.out hv).mono ?_
                  rintro e w8 ⟨rfl, hb8⟩
                  have HTB8 := keepH hb8 HTC.out
                  have cT : w8.cell? ⟨tb, j, none⟩ = some (.bool false) := bool_at HTB8.out (by rw [← hok]; exact HOB.out)
                  have co8 := cellOf hb8 co
                  have z9 := hb8.size
                  have HB8 := Lib.hid hb8
                  clear hb8 co q0 q1 q2 q3 q4 q5 q6 q7 q8 q9 q10 q11 q12 q13 q14
                  rw [errB_some]
                  go_wp2_with fail
                  go_region_held3 (fun w' => w'.cell? ⟨go, offo + k, none⟩ = some (.int .i64 j) ∧ w'.cell? ⟨tb, j, none⟩ = some (.bool false)) (first | with_reducible exact ⟨co8, cT⟩ | go_keep)
                    (fail)
                  go_wp2_with fail
                  go_roundw
                  case rel =>
                    refine ⟨k + 1, by omega, by go_num, HTB8, Lib.hid ((HAC.out.step HB8.out).step (by (repeat' (first | with_reducible exact Below.refl _ _ | with_reducible assumption | with_reducible refine Below.drew ?_ | with_reducible refine below_drewN ?_ _ | with_reducible refine Below.setCell ?_ ?_ _ | with_reducible refine Below.alloc ?_ ?_ _ | omega | (simp; done) | (simp; omega))))), Lib.hid ?_, ?_⟩
                    · rw [HPK.out, List.filter_append, List.filter_cons, if_neg (by rw [hok]; decide), List.filter_nil, List.append_nil]
                      exact (HBC.out.step HB8.out).step (by (repeat' (first | with_reducible exact Below.refl _ _ | with_reducible assumption | with_reducible refine Below.drew ?_ | with_reducible refine below_drewN ?_ _ | with_reducible refine Below.setCell ?_ ?_ _ | with_reducible refine Below.alloc ?_ ?_ _ | omega | (simp; done) | (simp; omega))))
                    · exact (ho2.trans ⟨HB8.out.os, HB8.out.tape, HB8.out.output, HB8.out.size, fun k hk _ => HB8.out.block k hk⟩).drew
                  case measure => simp [intOf] <;> omega
                | none =>
                  have hok : okB p = true := by unfold okB; rw [hv]; rfl
                  obtain ⟨hpi, hid⟩ := valid_in hpw hv
                  have hlS : ((pickL l2 (ord.take k)).filter okB).length ≤ 200 := Nat.le_trans (List.length_filter_le ..) (Nat.le_trans (pick_len _ _) (by rw [List.length_take]; omega))
                  go_wp2_with fail
                  refine (register_new b Mb _ p F cF E m wr HBC.out (HE.out.below hwr2) (cell_at HM.out hwr2) hpi HPA.out hv (fun q hq => ne_id (HNE.out q (List.mem_filter.1 hq).1)) (by omega) (by unfold maxLen; omega)).mono ?_
                  rintro e w8 ⟨rfl, hB8, ho8⟩
                  have HTB8 := Lib.hid (heap_only HTC.out ho8 HBC.out.isMap)
                  have cT : w8.cell? ⟨tb, j, none⟩ = some (.bool true) := bool_at HTB8.out (by rw [← hok]; exact HOB.out)
                  have co8 := cell_only co ho8 HBC.out.isMap
                  have z9 := ho8.size
                  have HBk8 := Lib.hid hB8
                  have HO8 := Lib.hid ho8
                  clear ho8 hB8 co q0 q1 q2 q3 q4 q5 q6 q7 q8 q9 q10 q11 q12 q13 q14
                  go_wp2_with fail
                  go_region_held3 (fun w' => w'.cell? ⟨go, offo + k, none⟩ = some (.int .i64 j) ∧ w'.cell? ⟨tb, j, none⟩ = some (.bool true)) (first | with_reducible exact ⟨co8, cT⟩ | go_keep)
                    (fail)
                  go_wp2_with fail
                  go_roundw
                  case rel =>
                    refine ⟨k + 1, by omega, by go_num, HTB8, Lib.hid ((HAC.out.only HBC.out hMne HO8.out).step (by (repeat' (first | with_reducible exact Below.refl _ _ | with_reducible assumption | with_reducible refine Below.drew ?_ | with_reducible refine below_drewN ?_ _ | with_reducible refine Below.setCell ?_ ?_ _ | with_reducible refine Below.alloc ?_ ?_ _ | omega | (simp; done) | (simp; omega))))), Lib.hid ?_, ?_⟩
                    · rw [HPK.out, List.filter_append, List.filter_cons, if_pos (by rw [hok]), List.filter_nil]
                      exact HBk8.out.step (by (repeat' (first | with_reducible exact Below.refl _ _ | with_reducible assumption | with_reducible refine Below.drew ?_ | with_reducible refine below_drewN ?_ _ | with_reducible refine Below.setCell ?_ ?_ _ | with_reducible refine Below.alloc ?_ ?_ _ | omega | (simp; done) | (simp; omega))))
                    · exact (ho2.trans (only_wide HO8.out (by simp))).drew
                  case measure => simp [intOf] <;> omega
              · obtain rfl : k = l2.length := by omega
                have hlt3 : ¬ (l2.length : Int) < (l2.length : Int) := by omega
                have hlen : ord.length = l2.length := by rw [← zs_len]; exact hlo
                have HBE : Hid (BookAt wr b Mb false ((pickL l2 ord).filter okB)) := Lib.hid (by have := HBC.out; rwa [← hlen, List.take_length] at this)
                have hperm : (l2.filter okB).Perm ((pickL l2 ord).filter okB) := ((pick_perm l2 HPM.out).filter okB).symm
                have hl1 : (l2.filter okB).length ≤ 200 := Nat.le_trans (List.length_filter_le ..) h200
                have hl2 : ((pickL l2 ord).filter okB).length ≤ 200 := by rw [← hperm.length_eq]; exact hl1
                have hnd : ((l2.filter okB).map idb).Nodup := by obtain ⟨D, _, h⟩ := HAC.out.own; exact h.nodup
                have hsz : s.size ≤ maxLen := by unfold maxLen; omega
                have HAL := Lib.hid (alike_any a Ma false _ b Mb false _ s wr HAC.out HBE.out hperm (by omega) hsz)
                have HKA := Lib.hid (fun W (h : Below wr.heap.size wr W) => known_any a Ma false _ day W (HAC.out.step h) (by omega))
                have HKB := Lib.hid (fun W (h : Below wr.heap.size wr W) => by have := known_any b Mb false _ day W (HBE.out.step h) (by omega); rw [sel_perm (knownB day) hperm hnd] at this; exact this)
                have hl3 : (sel (knownB day) (l2.filter okB)).length ≤ 10000 := by have := sel_len (F := knownB day) hnd; omega
                have hend := HBW.out wr ho2
                clear hperm hl2 hnd
                go_wp2_with fail
                refine HAL.out.mono ?_
                rintro e wa ⟨rfl, hba⟩
                go_wp2_with fail
                refine (HKA.out wa hba).mono ?_
                rintro e wb ⟨⟨ka, kMa, rfl, hka, _, _⟩, hbb⟩
                have hb9 := stepH hba hbb
                go_wp2_with fail
                refine (HKB.out wb hb9).mono ?_
                rintro e wc ⟨⟨kb, kMb, rfl, hkb, _, _⟩, hbc⟩
                have hb10 := stepH hb9 hbc
                have HKX := Lib.hid (alike_any ka kMa true _ kb kMb true _ s wc (hka.step hbc) hkb (List.Perm.refl _) hl3 hsz)
                clear hka hkb hba hbb hbc
                go_wp2_with fail
                refine HKX.out.mono ?_
                rintro e wd ⟨rfl, hbd⟩
                have hb11 := stepH hb10 hbd
                go_wp2_with fail
                go_ret
                exact ⟨rfl, stepH hend hb11⟩
end Go.Proofs.YtngckppnaflciaaDoor
