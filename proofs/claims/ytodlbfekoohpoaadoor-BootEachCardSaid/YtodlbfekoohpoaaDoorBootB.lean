/- Ledgers: write, may, Note: walks. -/
import Derived.Test.YtodlbfekoohpoaaDoorBootA
import Derived.Deep.RegionHeldLaw
import Derived.Deep.AppendLies
namespace Go.Proofs.YtodlbfekoohpoaaDoor
open Go.RowKit Go.Maps

/-- a store into a map at a step of a region that draws its order -/
theorem step_mapUpdate_own {H : Type} {P : Program} {ops : Array Oper} {o : Oper} {a : Act} {w : World} {K' : Act → World → Prop} {Q : Exit → Act → World → Prop} {E : Prop} (hgd : o.guard = none) (m x v : Operand) (t : TypeId) (hop : o.op = Op.mapUpdate t m x v)
    (k e : TypeId) (K : Keyed P k) (ht : P.underlying t = some (.map k e)) (R : Value → Option (DataW H × List MemPlace)) (b n : Nat) (D : DataW H)
    (hm : a.eval m = .map (some b)) (hown : w.ownsMap P k R b n D) (hn : n < maxLen) (key val : Value) (kl : Lit) (hx : a.eval x = key) (hv : a.eval v = val) (hkey : keyOf P k key = some kl)
    (d : DataW H) (ps : List MemPlace) (hval : R val = some (d, ps))
    (hK : ∀ w', w'.ownsMap P k R b (n + 1) (D.put kl d) → w.grownBy w' (some b) → K' (a.put o.dst undef) w') :
    if Region.wanted o (yielded ops a.tmps) = true then Oper.wp P o a w K' Q else E := by
  have hw : Region.wanted o (yielded ops a.tmps) = true := by simp [Region.wanted, hgd]
  rw [if_pos hw]
  obtain ⟨w', hrun, r1, r2⟩ := hown.update K ht hn hkey hval
  unfold Oper.wp
  simp [execOp, hop, hm, hx, hv, hrun, Result.andThen]
  exact hK w' r1 r2

theorem ne_map {w : World} {L P n : Nat} {k : TypeId} {R : Value → Option (DataW Unit × List MemPlace)} {D : DataW Unit} {cs : Array Value} {t : TypeId} {z : Nat × Nat} (hb : w.heap[L]? = some (.cells cs t z)) (h : w.ownsMap Tryd.prog k R P n D) : P ≠ L := fun e => by
  obtain ⟨es, clock, hm, _⟩ := h
  rw [e, hb] at hm; cases hm
theorem grown_set {w : World} {p : Addr} {u : Value} (h : p.block < w.heap.size) : w.grownBy (w.setCell p u) (some p.block) :=
  have hb : Below 0 w (w.setCell p u) := (Below.refl 0 w).setCell (Nat.zero_le _) u
  ⟨hb.os, hb.tape, hb.output, hb.size, fun k _ hne => Below.heap_setCell w p u k (fun e => hne (by rw [e]))⟩

theorem places_put {D : DataW Unit} {N : List Nt} {s : ByteArray} {x : Int} (hD : IsMap D) (hno : idxN N s = none) (h : ∀ t, t.size ≤ maxLen → Maps.has D (keyS t) = (idxN N t).isSome ∧ ∀ i : Nat, idxN N t = some i → D.atKey (keyS t) (.lit (.int .i64 0)) = .lit (.int .i64 i)) :
    ∀ t, t.size ≤ maxLen → Maps.has (D.put (keyS s) (.lit (.int .i64 N.length))) (keyS t) = (idxN (N ++ [(s, x)]) t).isSome ∧ ∀ i : Nat, idxN (N ++ [(s, x)]) t = some i → (D.put (keyS s) (.lit (.int .i64 N.length))).atKey (keyS t) (.lit (.int .i64 0)) = .lit (.int .i64 i) := by
  intro t ht
  rw [idxN_snoc hno]
  by_cases e : t = s
  · subst e
    rw [if_pos rfl, has_put_same hD (keyS_lit _), atKey_put_same hD (keyS_lit _)]
    exact ⟨rfl, fun i hi => by cases hi; rfl⟩
  · have hk : keyS t ≠ keyS s := fun h => e (keyS_inj h)
    rw [if_neg e, has_put_other hk, atKey_put_other hk]
    exact h t ht

set_option maxRecDepth 10000 in
set_option maxHeartbeats 4000000 in
theorem write_any (b L P U um : Nat) (v : Value) (N : List Nt) (B : List ByteArray) (cl : Bool) (s : ByteArray) (x : Int) (w : World) (hl : Led b w L P U v N B cl um) (hs : s.size ≤ maxLen) (hno : idxN N s = none) (hlen : N.length < 200) (hb : b ≤ w.heap.size) :
    Calls Tryd.prog 36 #[.pointer (some ⟨L, 0, none⟩), .string s, .int .i64 x] w fun e w' => e = .returned (.tuple #[]) ∧ ∃ v', Led b w' L P U v' (N ++ [(s, x)]) B cl um ∧ LKeep [] L P U v w v' w' := by
  obtain ⟨inf0, hi, jz0, jz1, jz2⟩ := info_parts infoNt
  obtain ⟨A, c, hv, _, _, _⟩ := Own.rows (fun x _ => encN_len x) hl.own
  have BX := Lib.hid hl.box
  have HL := Lib.hid hl
  have HO := Lib.hid hl.own
  obtain ⟨n, D, hn, hown, hat⟩ := hl.places
  obtain ⟨DU, hown2, hat2⟩ := hl.under
  have hPL := ne_map hl.box hown
  have hUL := ne_map hl.box hown2
  have hne := hl.ne
  have hlL := lt_of_H BX
  have hlP := hown.lt
  have hlU := hown2.lt
  have hvb : Hid (∀ k, v.ownBlock = some k → k ≠ L ∧ k ≠ P ∧ k ≠ U) := fun k hk => by
    rcases hl.own.2 with ⟨h, _⟩ | ⟨g, cap, cur, h, _, hg, _⟩
    · rw [h] at hk; cases hk
    · rw [h] at hk
      simp [Value.ownBlock] at hk
      subst hk
      refine ⟨fun e => ?_, fun e => ?_, fun e => ?_⟩
      · rw [e, hl.box] at hg; cases hg
      · subst e; obtain ⟨es, ck, hm, _⟩ := hown; rw [hg] at hm; cases hm
      · subst e; obtain ⟨es, ck, hm, _⟩ := hown2; rw [hg] at hm; cases hm
  have HPUT := Lib.hid (places_put (x := x) hown.isMap hno hat)
  have HOWN := Lib.hid hown
  have HOWN2 := Lib.hid hown2
  have HU2 := Lib.hid hat2
  have hkey := keyS_of hs
  subst hv
  have k0 : w.cell? ⟨L, 0, none⟩ = some (.slice A N.length c) := cellH BX 0
  have k1 : w.cell? ⟨L, 1, none⟩ = some (.map (some P)) := cellH BX 1
  have hNL := Lib.hid hno
  obtain ⟨w1, hrun, hown1, hgrow1⟩ := (World.ownsMap.drew hown).update lawS Tryd.underlying71 (by unfold maxLen; omega) (key := .string s) (val := .int .i64 N.length) hkey (plainElem_int Tryd.underlying3 (WalkArith.wf_i64 (by omega)))
  have j0 : w1.cell? ⟨L, 0, none⟩ = some (.slice A N.length c) := (World.grownBy.cell_far hgrow1 ⟨L, 0, none⟩ hlL (fun e => hPL (by injection e with e; exact e.symm))).trans k0
  have j1 : w1.cell? ⟨L, 1, none⟩ = some (.map (some P)) := (World.grownBy.cell_far hgrow1 ⟨L, 1, none⟩ hlL (fun e => hPL (by injection e with e; exact e.symm))).trans k1
  have HOWN1 := Lib.hid hown1
  have HG1 := Lib.hid hgrow1
  clear hl hat hat2 hown hown2 hno hown1
  go_enter Tryd.func36, Tryd.ntmps36
  go_wp2_with fail
  go_region_held_law (fun w' => w'.cell? ⟨L, 0, none⟩ = some (.slice A N.length c) ∧ w'.cell? ⟨L, 1, none⟩ = some (.map (some P))) (first | with_reducible exact ⟨k0, k1⟩ | with_reducible exact ⟨j0, j1⟩ | go_keep)
    (fail)
  have BX1 : Hid (w1.heap[L]? = some (.cells #[.slice A N.length c, .map (some P), .map (some U), .bool cl] 73 (0, 0))) := (HG1.out.block L hlL (fun e => hPL (by injection e with e; exact e.symm))).trans BX.out
  have HO1 : Hid (Own encN 2 39 b w1 (.slice A N.length c) N) := World.ownsRow.kept (w := w.drew) HO.out HG1.out (by
    rcases hw : (Value.slice A N.length c).ownBlock with _ | k
    · exact .inl rfl
    · exact .inr (fun e => (hvb.out k hw).2.1 (by injection e)))
  have HU1 := Lib.hid (World.ownsMap.kept (w := w.drew) HOWN2.out HG1.out (fun e => hne (by injection e with e; exact e.symm)))
  have z1 : w.heap.size ≤ w1.heap.size := HG1.out.size
  have hxs : (Value.string s).oneCell' = true := rfl
  clear j0 j1 k0 k1
  go_wp2_with (at_builtin; go_must (refine wpList_append_lies _ rfl (.tmp 20) (.tmp 24) 28 rfl b 39 inf0 _ 2 24 Tryd.underlying28 hi jz0 jz1 jz2 rfl (by decide) _ N.length _ rfl (own_below HO1.out (by (repeat' (first | with_reducible exact Below.refl _ _ | with_reducible assumption | with_reducible refine Below.drew ?_ | with_reducible refine below_drewN ?_ _ | with_reducible refine Below.setCell ?_ ?_ _ | with_reducible refine Below.alloc ?_ ?_ _ | omega | (simp; done) | (simp; omega))))) ⟨w1.heap.size, 0, none⟩ 1 1 [.string s, .int .i64 x] rfl rfl (World.news_of_block (cs := #[.string s, .int .i64 x]) (blk_new rfl)) (by simp [Value.oneCell']) (by decide) (by unfold maxLen; omega) (by omega) (by simp; omega) _ rfl ?_); intro g9 c9 w2 hown9 hgrow9 hat9 hlt9; have z2 : w1.heap.size < w2.heap.size := Nat.lt_of_lt_of_le (by simp) hgrow9.size; have BX2 : Hid (w2.heap[L]? = some (.cells #[.slice A N.length c, .map (some P), .map (some U), .bool cl] 73 (0, 0))) := (hgrow9.block L (by simp; omega) (fun e => (hvb.out L e.symm).1 rfl)).trans (blk_old BX1.out); have cB2 := cellH BX2; have fB2 := frozH BX2; have hlL2 := lt_of_H BX2)
  go_end0
  have hg9 : g9 ≠ L := fun e => by
    rcases hat9 with h | h
    · exact (hvb.out g9 h).1 e
    · simp at h; omega
  have hg9P : g9 ≠ P := fun e => by
    rcases hat9 with h | h
    · exact (hvb.out g9 h).2.1 e
    · simp at h; omega
  have hg9U : g9 ≠ U := fun e => by
    rcases hat9 with h | h
    · exact (hvb.out g9 h).2.2 e
    · simp at h; omega
  have hrow : ∀ k, some k = (Value.slice A N.length c).ownBlock → k ≠ L ∧ k ≠ P ∧ k ≠ U := fun k e => hvb.out k e.symm
  refine ⟨rfl, .slice (some ⟨g9, 0, none⟩) (N.length + 1) c9, ?_, ?_⟩
  · refine ⟨HL.out.hL, HL.out.hP, HL.out.hU, hne, ?_, ?_, ⟨n + 1, _, ?_, ?_, HPUT.out⟩, ⟨DU, ?_, HU2.out⟩, ?_⟩
    · have h := BX2.out
      simp [World.setCell, Array.getElem?_modify, h]
    · have h := Own.snoc (enc := encN) (x := (s, x)) hown9 rfl rfl
      rw [show N.length + 1 = (N ++ [(s, x)]).length by simp] at h ⊢
      exact own_setOther h (fun k e => by simp [Value.ownBlock] at e; omega)
    · rw [List.length_append]; simpa using hn
    · exact ((HOWN1.out.alloc _).kept hgrow9 (fun e => (hrow P e).2.1 rfl)).setCell (by exact hPL) _
    · exact ((HU1.out.alloc _).kept hgrow9 (fun e => (hrow U e).2.2 rfl)).setCell (by exact hUL) _
    · simp only [List.length_append, List.length_cons, List.length_nil]; omega
  · have hz3 : (w2.setCell ⟨L, 0, none⟩ (.slice (some ⟨g9, 0, none⟩) (N.length + 1) c9)).heap.size = w2.heap.size := by simp [World.setCell]
    have hs2 : Below 0 w2 (w2.setCell ⟨L, 0, none⟩ (.slice (some ⟨g9, 0, none⟩) (N.length + 1) c9)) := (Below.refl 0 w2).setCell (Nat.zero_le _) _
    refine ⟨hs2.os.trans (hgrow9.os.trans HG1.out.os), hs2.tape.trans (hgrow9.tape.trans HG1.out.tape), hs2.output.trans (hgrow9.output.trans HG1.out.output), by rw [hz3]; omega, fun k hk h1 h2 h3 h4 _ => ?_, fun k e => ?_⟩
    · rw [Below.heap_setCell _ _ _ _ h1, hgrow9.block k (by simp; omega) (fun e => h4 e.symm)]
      refine (Below.heap_alloc _ _ _ (by omega)).trans (HG1.out.block k hk (fun e => h2 (by injection e)))
    · simp [Value.ownBlock] at e
      subst e
      rcases hat9 with h | h
      · exact .inl h
      · simp at h; exact .inr (by omega)

/-- what Name answers of a step, from a world on -/
def NameAt (w : World) (s : ByteArray) (nb : Bool) : Prop := ∀ W, Below w.heap.size w W → Calls Tryd.prog 45 #[.string s] W fun e w' => e = .returned (.bool nb) ∧ Below W.heap.size W w'
theorem NameAt.below {w w' : World} {s : ByteArray} {nb : Bool} (h : NameAt w s nb) (hb : Below w.heap.size w w') : NameAt w' s nb := fun W h' => h W (stepH hb h')

/-- what is wrong with a step that is to be noted, or begun -/
def mayE (nb : Bool) (N : List Nt) (B : List ByteArray) (cl : Bool) (s : ByteArray) (busy : Nat) : Option Nat :=
  if cl then some 3 else if nb = false then some 2 else if (idxN N s).isSome then some 1 else if inB B s then some busy else roomE cl N.length

set_option maxRecDepth 10000 in
set_option maxHeartbeats 4000000 in
theorem may_any (b L P U um : Nat) (v : Value) (N : List Nt) (B : List ByteArray) (cl : Bool) (s : ByteArray) (nb : Bool) (busy : Nat) (E : Nat → Addr) (w : World) (hl : Led b w L P U v N B cl um) (hs : s.size ≤ maxLen) (hE : Env L5 E w)
    (hN : NameAt w s nb) :
    Calls Tryd.prog 35 #[.pointer (some ⟨L, 0, none⟩), .string s, .iface 98 (.pointer (some (E busy)))] w fun e w' => e = .returned (errV5 E (mayE nb N B cl s busy)) ∧ Below w.heap.size w w' := by
  have HE := Lib.hid hE
  have HL := Lib.hid hl
  have HN := Lib.hid hN
  obtain ⟨A, c, hv, _, _, _⟩ := Own.rows (fun x _ => encN_len x) hl.own
  have BX := Lib.hid hl.box
  obtain ⟨n, D, _, hown, hat⟩ := hl.places
  obtain ⟨DU, hown2, hat2⟩ := hl.under
  have H1 := Lib.hid (hat s hs).1
  have H2 := Lib.hid (hat2 s hs)
  have HOWN := Lib.hid hown
  have HOWN2 := Lib.hid hown2
  have hkey := keyS_of hs
  have hx1 : errV5 E (some busy) = .iface 98 (.pointer (some (E busy))) := rfl
  subst hv
  have cB := cellH BX
  clear hl hE hN hat hat2 hown hown2
  cases cl with
  | true =>
    have e0 := HE.out.cell 3 (by decide)
    go_enter Tryd.func35, Tryd.ntmps35
    go_wp2_with (at_lookup; refine wpList_lookup_own_ok_int _ rfl _ _ 71 rfl 9 3 .i64 lawS Tryd.underlying71 Tryd.underlying3 (zeroI _) P n D rfl HOWN.out _ _ rfl hkey ?_; intro c9 hat9 hwc9)
    go_ret
    exact ⟨rfl, by (repeat' (first | with_reducible exact Below.refl _ _ | with_reducible assumption | with_reducible refine Below.drew ?_ | with_reducible refine below_drewN ?_ _ | with_reducible refine Below.setCell ?_ ?_ _ | with_reducible refine Below.alloc ?_ ?_ _ | omega | (simp; done) | (simp; omega)))⟩
  | false =>
    cases nb with
    | false =>
      have e0 := fun w' (h : Below w.heap.size w w') => (HE.out.below h).cell 2 (by decide)
      go_enter Tryd.func35, Tryd.ntmps35
      go_wp2_with (at_lookup; refine wpList_lookup_own_ok_int _ rfl _ _ 71 rfl 9 3 .i64 lawS Tryd.underlying71 Tryd.underlying3 (zeroI _) P n D rfl HOWN.out _ _ rfl hkey ?_; intro c9 hat9 hwc9)
      refine (HN.out _ (by (repeat' (first | with_reducible exact Below.refl _ _ | with_reducible assumption | with_reducible refine Below.drew ?_ | with_reducible refine below_drewN ?_ _ | with_reducible refine Below.setCell ?_ ?_ _ | with_reducible refine Below.alloc ?_ ?_ _ | omega | (simp; done) | (simp; omega))))).mono ?_
      rintro e w1 ⟨rfl, hb1⟩
      have hw1 : Below w.heap.size w w1 := stepH (by (repeat' (first | with_reducible exact Below.refl _ _ | with_reducible assumption | with_reducible refine Below.drew ?_ | with_reducible refine below_drewN ?_ _ | with_reducible refine Below.setCell ?_ ?_ _ | with_reducible refine Below.alloc ?_ ?_ _ | omega | (simp; done) | (simp; omega)))) hb1
      have e1 := e0 w1 hw1
      clear e0
      go_wp2_with fail
      go_ret
      exact ⟨rfl, by (repeat' (first | with_reducible exact Below.refl _ _ | with_reducible assumption | with_reducible refine Below.drew ?_ | with_reducible refine below_drewN ?_ _ | with_reducible refine Below.setCell ?_ ?_ _ | with_reducible refine Below.alloc ?_ ?_ _ | omega | (simp; done) | (simp; omega)))⟩
    | true =>
      cases hi : (idxN N s).isSome with
      | true =>
        have HH : Hid (Maps.has D (keyS s) = true) := by show _ = _; rw [H1.out, hi]
        have HR : Hid (mayE true N B false s busy = some 1) := by show _ = _; unfold mayE; rw [if_neg (by decide), if_neg (by decide), hi]; rfl
        have e0 := fun w' (h : Below w.heap.size w w') => (HE.out.below h).cell 1 (by decide)
        clear hi
        go_enter Tryd.func35, Tryd.ntmps35
        go_wp2_with (at_lookup; refine wpList_lookup_own_ok_int _ rfl _ _ 71 rfl 9 3 .i64 lawS Tryd.underlying71 Tryd.underlying3 (zeroI _) P n D rfl HOWN.out _ _ rfl hkey ?_; intro c9 hat9 hwc9; rw [HH.out])
        refine (HN.out _ (by (repeat' (first | with_reducible exact Below.refl _ _ | with_reducible assumption | with_reducible refine Below.drew ?_ | with_reducible refine below_drewN ?_ _ | with_reducible refine Below.setCell ?_ ?_ _ | with_reducible refine Below.alloc ?_ ?_ _ | omega | (simp; done) | (simp; omega))))).mono ?_
        rintro e w1 ⟨rfl, hb1⟩
        have hw1 : Below w.heap.size w w1 := stepH (by (repeat' (first | with_reducible exact Below.refl _ _ | with_reducible assumption | with_reducible refine Below.drew ?_ | with_reducible refine below_drewN ?_ _ | with_reducible refine Below.setCell ?_ ?_ _ | with_reducible refine Below.alloc ?_ ?_ _ | omega | (simp; done) | (simp; omega)))) hb1
        have e1 := e0 w1 hw1
        clear e0
        go_wp2_with fail
        go_ret
        exact ⟨by rw [HR.out]; rfl, by (repeat' (first | with_reducible exact Below.refl _ _ | with_reducible assumption | with_reducible refine Below.drew ?_ | with_reducible refine below_drewN ?_ _ | with_reducible refine Below.setCell ?_ ?_ _ | with_reducible refine Below.alloc ?_ ?_ _ | omega | (simp; done) | (simp; omega)))⟩
      | false =>
        have HH : Hid (Maps.has D (keyS s) = false) := by show _ = _; rw [H1.out, hi]
        cases hu : inB B s with
        | true =>
          have HR : Hid (mayE true N B false s busy = some busy) := by show _ = _; unfold mayE; rw [if_neg (by decide), if_neg (by decide), hi, if_neg (by decide), hu]; rfl
          have HU : Hid (DU.atKey (keyS s) (.lit (.int .i64 0)) = .lit (.int .i64 1)) := by show _ = _; rw [H2.out, hu]; rfl
          clear hi hu
          go_enter Tryd.func35, Tryd.ntmps35
          go_wp2_with (at_lookup; refine wpList_lookup_own_ok_int _ rfl _ _ 71 rfl 9 3 .i64 lawS Tryd.underlying71 Tryd.underlying3 (zeroI _) P n D rfl HOWN.out _ _ rfl hkey ?_; intro c9 hat9 hwc9; rw [HH.out])
          refine (HN.out _ (by (repeat' (first | with_reducible exact Below.refl _ _ | with_reducible assumption | with_reducible refine Below.drew ?_ | with_reducible refine below_drewN ?_ _ | with_reducible refine Below.setCell ?_ ?_ _ | with_reducible refine Below.alloc ?_ ?_ _ | omega | (simp; done) | (simp; omega))))).mono ?_
          rintro e w1 ⟨rfl, hb1⟩
          have hw1 : Below w.heap.size w w1 := stepH (by (repeat' (first | with_reducible exact Below.refl _ _ | with_reducible assumption | with_reducible refine Below.drew ?_ | with_reducible refine below_drewN ?_ _ | with_reducible refine Below.setCell ?_ ?_ _ | with_reducible refine Below.alloc ?_ ?_ _ | omega | (simp; done) | (simp; omega)))) hb1
          have HO2 := Lib.hid (HOWN2.out.kept (w' := w1) (row := none) ⟨hw1.os, hw1.tape, hw1.output, hw1.size, fun i hi _ => hw1.block i hi⟩ (by simp))
          have BX1 : Hid (w1.heap[L]? = some (.cells #[.slice A N.length c, .map (some P), .map (some U), .bool false] 73 (0, 0))) := (hw1.block L (lt_of_H BX)).trans BX.out
          have cB1 := cellH BX1
          clear cB
          go_wp2_with (at_lookup; refine wpList_lookup_own_int _ rfl _ _ 71 rfl 9 3 .i64 lawS Tryd.underlying71 Tryd.underlying3 (zeroI _) U um DU rfl HO2.out _ _ rfl hkey ?_; intro c9 hat9 hwc9; (obtain rfl : (1 : Int) = c9 := by (have h9 := HU.out.symm.trans hat9; injection h9 with h9; injection h9)); clear hat9 hwc9)
          go_ret
          exact ⟨by rw [HR.out]; rfl, by (repeat' (first | with_reducible exact Below.refl _ _ | with_reducible assumption | with_reducible refine Below.drew ?_ | with_reducible refine below_drewN ?_ _ | with_reducible refine Below.setCell ?_ ?_ _ | with_reducible refine Below.alloc ?_ ?_ _ | omega | (simp; done) | (simp; omega)))⟩
        | false =>
          have HR : Hid (mayE true N B false s busy = roomE false N.length) := by show _ = _; unfold mayE; rw [if_neg (by decide), if_neg (by decide), hi, if_neg (by decide), hu, if_neg (by decide)]
          have HU : Hid (DU.atKey (keyS s) (.lit (.int .i64 0)) = .lit (.int .i64 0)) := by show _ = _; rw [H2.out, hu]; rfl
          clear hi hu
          go_enter Tryd.func35, Tryd.ntmps35
          go_wp2_with (at_lookup; refine wpList_lookup_own_ok_int _ rfl _ _ 71 rfl 9 3 .i64 lawS Tryd.underlying71 Tryd.underlying3 (zeroI _) P n D rfl HOWN.out _ _ rfl hkey ?_; intro c9 hat9 hwc9; rw [HH.out])
          refine (HN.out _ (by (repeat' (first | with_reducible exact Below.refl _ _ | with_reducible assumption | with_reducible refine Below.drew ?_ | with_reducible refine below_drewN ?_ _ | with_reducible refine Below.setCell ?_ ?_ _ | with_reducible refine Below.alloc ?_ ?_ _ | omega | (simp; done) | (simp; omega))))).mono ?_
          rintro e w1 ⟨rfl, hb1⟩
          have hw1 : Below w.heap.size w w1 := stepH (by (repeat' (first | with_reducible exact Below.refl _ _ | with_reducible assumption | with_reducible refine Below.drew ?_ | with_reducible refine below_drewN ?_ _ | with_reducible refine Below.setCell ?_ ?_ _ | with_reducible refine Below.alloc ?_ ?_ _ | omega | (simp; done) | (simp; omega)))) hb1
          have HO2 := Lib.hid (HOWN2.out.kept (w' := w1) (row := none) ⟨hw1.os, hw1.tape, hw1.output, hw1.size, fun i hi _ => hw1.block i hi⟩ (by simp))
          have BX1 : Hid (w1.heap[L]? = some (.cells #[.slice A N.length c, .map (some P), .map (some U), .bool false] 73 (0, 0))) := (hw1.block L (lt_of_H BX)).trans BX.out
          have cB1 := cellH BX1
          clear cB
          go_wp2_with (at_lookup; refine wpList_lookup_own_int _ rfl _ _ 71 rfl 9 3 .i64 lawS Tryd.underlying71 Tryd.underlying3 (zeroI _) U um DU rfl HO2.out _ _ rfl hkey ?_; intro c9 hat9 hwc9; (obtain rfl : (0 : Int) = c9 := by (have h9 := HU.out.symm.trans hat9; injection h9 with h9; injection h9)); clear hat9 hwc9)
          refine (room_any b L P U um _ N B false E w1 (HL.out.below hw1) (HE.out.below hw1)).mono ?_
          rintro e w2 ⟨rfl, hb2⟩
          have hw2 : Below w.heap.size w w2 := stepH (by (repeat' (first | with_reducible exact Below.refl _ _ | with_reducible assumption | with_reducible refine Below.drew ?_ | with_reducible refine below_drewN ?_ _ | with_reducible refine Below.setCell ?_ ?_ _ | with_reducible refine Below.alloc ?_ ?_ _ | omega | (simp; done) | (simp; omega)))) hb2
          go_wp2_with fail
          go_ret
          exact ⟨by rw [HR.out]; rfl, by (repeat' (first | with_reducible exact Below.refl _ _ | with_reducible assumption | with_reducible refine Below.drew ?_ | with_reducible refine below_drewN ?_ _ | with_reducible refine Below.setCell ?_ ?_ _ | with_reducible refine Below.alloc ?_ ?_ _ | omega | (simp; done) | (simp; omega)))⟩

theorem mayE_none {nb : Bool} {N : List Nt} {B : List ByteArray} {cl : Bool} {s : ByteArray} {busy : Nat} (h : mayE nb N B cl s busy = none) : cl = false ∧ nb = true ∧ idxN N s = none ∧ inB B s = false ∧ N.length < 200 := by
  unfold mayE at h
  cases cl with
  | true => cases h
  | false =>
    cases nb with
    | false => cases h
    | true =>
      cases hi : idxN N s with
      | some i => rw [hi] at h; cases h
      | none =>
        rw [hi] at h
        cases hu : inB B s with
        | true => rw [hu] at h; cases h
        | false =>
          rw [hu] at h
          unfold roomE at h
          by_cases hl : 200 ≤ N.length
          · simp [hl] at h
          · exact ⟨rfl, rfl, rfl, rfl, by omega⟩

set_option maxRecDepth 10000 in
set_option maxHeartbeats 4000000 in
theorem note_no (b L P U um : Nat) (v : Value) (N : List Nt) (B : List ByteArray) (cl : Bool) (s : ByteArray) (x : Int) (nb : Bool) (g : Nat) (E : Nat → Addr) (w : World) (hl : Led b w L P U v N B cl um) (hs : s.size ≤ maxLen) (hE : Env L5 E w)
    (hN : NameAt w s nb) (hm : mayE nb N B cl s 1 = some g) :
    Calls Tryd.prog 11 #[.pointer (some ⟨L, 0, none⟩), .string s, .int .i64 x] w fun e w' => e = .returned (errV5 E (some g)) ∧ Below w.heap.size w w' := by
  have e0 := hE.cell 1 (by decide)
  have HC := Lib.hid (may_any b L P U um v N B cl s nb 1 E w hl hs hE hN)
  have HM := Lib.hid hm
  have hen := fun w => eql_nil (E g) w
  clear hl hN hm hE
  go_enter Tryd.func11, Tryd.ntmps11
  go_wp2_with fail
  refine HC.out.mono ?_
  rintro e w1 ⟨rfl, hb1⟩
  rw [HM.out]
  have he : errV5 E (some g) = .iface 98 (.pointer (some (E g))) := rfl
  rw [he]
  go_wp2_with fail
  go_ret
  exact ⟨rfl, hb1⟩

set_option maxRecDepth 10000 in
set_option maxHeartbeats 4000000 in
theorem note_ok (b L P U um : Nat) (v : Value) (N : List Nt) (B : List ByteArray) (cl : Bool) (s : ByteArray) (x : Int) (nb : Bool) (E : Nat → Addr) (w : World) (hl : Led b w L P U v N B cl um) (hs : s.size ≤ maxLen) (hE : Env L5 E w) (hb : b ≤ w.heap.size)
    (hN : NameAt w s nb) (hm : mayE nb N B cl s 1 = none) :
    Calls Tryd.prog 11 #[.pointer (some ⟨L, 0, none⟩), .string s, .int .i64 x] w fun e w' => e = .returned .nilIface ∧ ∃ v', Led b w' L P U v' (N ++ [(s, x)]) B cl um ∧ LKeep [] L P U v w v' w' := by
  have e0 := hE.cell 1 (by decide)
  have HC := Lib.hid (may_any b L P U um v N B cl s nb 1 E w hl hs hE hN)
  have HM := Lib.hid hm
  obtain ⟨_, _, m3, _, m5⟩ := mayE_none hm
  have HL := Lib.hid hl
  have M3 := Lib.hid m3
  clear hl hN hm hE m3
  go_enter Tryd.func11, Tryd.ntmps11
  go_wp2_with fail
  refine HC.out.mono ?_
  rintro e w1 ⟨rfl, hb1⟩
  rw [HM.out]
  have he : errV5 E none = .nilIface := rfl
  rw [he]
  have z1 := hb1.size
  go_wp2_with fail
  refine (write_any b L P U um v N B cl s x w1 (HL.out.below hb1) hs M3.out m5 (by omega)).mono ?_
  rintro e w2 ⟨rfl, v2, hl2, hk2⟩
  have HL2 := Lib.hid hl2
  have HK2 := Lib.hid hk2
  clear hl2 hk2
  go_wp2_with fail
  go_ret
  exact ⟨rfl, v2, HL2.out, (LKeep.ofBelow hb1).trans HK2.out⟩

end Go.Proofs.YtodlbfekoohpoaaDoor
