/- Ledgers: a step is worked out (work, and what it defers), Once: walks. -/
import Derived.Test.YtodlbfekoohpoaaDoorBootB
import Derived.Defers
import Derived.Deep.RegionHeld3
namespace Go.Proofs.YtodlbfekoohpoaaDoor
open Go.RowKit Go.Maps

theorem LKeep.undrew {X : List Nat} {L P U : Nat} {v v' : Value} {w w' : World} (h : LKeep X L P U v w.drew v' w') : LKeep X L P U v w v' w' := ⟨h.os, h.tape, h.output, h.size, h.block, h.row⟩
theorem Led.drew {b L P U um : Nat} {v : Value} {N : List Nt} {B : List ByteArray} {cl : Bool} {w : World} (hl : Led b w L P U v N B cl um) : Led b w.drew L P U v N B cl um := ⟨hl.hL, hl.hP, hl.hU, hl.ne, hl.box, hl.own, hl.places, hl.under, hl.len⟩
theorem inB_ne {B : List ByteArray} {s t : ByteArray} (e : ¬ t = s) : inB (s :: B) t = inB B t := by unfold inB; rw [List.any_cons, decide_eq_false (fun h => e h.symm), Bool.false_or]
theorem inB_self {B : List ByteArray} {s : ByteArray} : inB (s :: B) s = true := by unfold inB; rw [List.any_cons, decide_eq_true rfl, Bool.true_or]

theorem under_put {B : List ByteArray} {s : ByteArray} {D : DataW Unit} (hD : IsMap D) (hat : ∀ t, t.size ≤ maxLen → D.atKey (keyS t) (.lit (.int .i64 0)) = .lit (.int .i64 (if inB B t then 1 else 0))) :
    ∀ t, t.size ≤ maxLen → (D.put (keyS s) (.lit (.int .i64 1))).atKey (keyS t) (.lit (.int .i64 0)) = .lit (.int .i64 (if inB (s :: B) t then 1 else 0)) := by
  intro t ht
  by_cases e : t = s
  · subst e
    rw [atKey_put_same hD (keyS_lit _), inB_self]; rfl
  · have hk : keyS t ≠ keyS s := fun h => e (keyS_inj h)
    rw [atKey_put_other hk, hat t ht, inB_ne e]

theorem under_del {B : List ByteArray} {s : ByteArray} (hs : inB B s = false) {D : DataW Unit} (hat : ∀ t, t.size ≤ maxLen → D.atKey (keyS t) (.lit (.int .i64 0)) = .lit (.int .i64 (if inB (s :: B) t then 1 else 0))) :
    ∀ t, t.size ≤ maxLen → (D.del (keyS s)).atKey (keyS t) (.lit (.int .i64 0)) = .lit (.int .i64 (if inB B t then 1 else 0)) := by
  intro t ht
  by_cases e : t = s
  · subst e
    rw [atKey_del_same, hs]; rfl
  · have hk : keyS t ≠ keyS s := fun h => e (keyS_inj h)
    rw [atKey_del_other hk, hat t ht, inB_ne e]

/-- only the map U turns -/
theorem Led.turn {b L P U um um' : Nat} {v : Value} {N : List Nt} {B B' : List ByteArray} {cl : Bool} {w w1 : World} (hl : Led b w L P U v N B cl um) (hg : w.grownBy w1 (some U)) {D : DataW Unit} (ho : w1.ownsMap Tryd.prog 9 (plainElem (H := Unit) Tryd.prog 3) U um' D)
    (hat : ∀ t, t.size ≤ maxLen → D.atKey (keyS t) (.lit (.int .i64 0)) = .lit (.int .i64 (if inB B' t then 1 else 0))) : Led b w1 L P U v N B' cl um' ∧ LKeep [] L P U v w v w1 := by
  obtain ⟨n, DP, h1, h2, h3⟩ := hl.places
  obtain ⟨DU, h4, _⟩ := hl.under
  have hUL := ne_map hl.box h4
  refine ⟨⟨hl.hL, hl.hP, hl.hU, hl.ne, (hg.block L hl.lt (fun e => hUL (by injection e with e; exact e.symm))).trans hl.box, ?_, ⟨n, DP, h1, h2.kept hg (fun e => hl.ne (by injection e)), h3⟩, ⟨D, ho, hat⟩, hl.len⟩, ⟨hg.os, hg.tape, hg.output, hg.size, fun k hk _ _ h5 _ _ => hg.block k hk (fun e => h5 (by injection e)), fun k e => .inl e⟩⟩
  refine World.ownsRow.kept hl.own hg ?_
  rcases hv : v.ownBlock with _ | k
  · exact .inl rfl
  · refine .inr (fun e => ?_)
    injection e with e
    subst e
    rcases hl.own.2 with ⟨h, _⟩ | ⟨g, cap, cur, h, _, hg2, _⟩
    · rw [h] at hv; cases hv
    · rw [h] at hv
      simp [Value.ownBlock] at hv
      subst hv
      obtain ⟨es, ck, hm, _⟩ := h4
      rw [hg2] at hm; cases hm

set_option maxRecDepth 10000 in
set_option maxHeartbeats 4000000 in
theorem drop_deferred (b L P U um lb sb : Nat) (v : Value) (N : List Nt) (B : List ByteArray) (cl : Bool) (s : ByteArray) (u : FrameMode) (w : World) (hl : Led b w L P U v N (s :: B) cl um) (hs : s.size ≤ maxLen) (hu : inB B s = false) (hlb : lb ≠ U) (hsb : sb ≠ U)
    (c0 : w.cell? ⟨lb, 0, none⟩ = some (.pointer (some ⟨L, 0, none⟩))) (c1 : w.cell? ⟨sb, 0, none⟩ = some (.string s)) :
    CallsD Tryd.prog 46 #[.pointer (some ⟨lb, 0, none⟩), .pointer (some ⟨sb, 0, none⟩)] u w fun e u' w' => u' = u ∧ (e = .returned (.tuple #[]) ∧ Led b w' L P U v N B cl um ∧ LKeep [] L P U v w v w') := by
  have BX := Lib.hid hl.box
  have cB := cellH BX
  have hkey := keyS_of hs
  obtain ⟨DU, hown, hat⟩ := hl.under
  obtain ⟨w1, hrun, hown1, hturn⟩ := (World.ownsMap.drew hown).drop lawS Tryd.underlying71 hkey 0
  have HF := Lib.hid (Led.turn (w := w.drew) hl.drew hturn.grown hown1 (under_del hu hat))
  clear hl hat hown1
  have k2 : w.cell? ⟨L, 2, none⟩ = some (.map (some U)) := cellH BX 2
  have hUL := ne_map BX.out hown
  have hg := hturn.grown
  have d0 : w1.cell? ⟨lb, 0, none⟩ = some (.pointer (some ⟨L, 0, none⟩)) := (World.grownBy.cell_far hg ⟨lb, 0, none⟩ (cell_lt c0) (fun e => hlb (by injection e))).trans c0
  have d1 : w1.cell? ⟨sb, 0, none⟩ = some (.string s) := (World.grownBy.cell_far hg ⟨sb, 0, none⟩ (cell_lt c1) (fun e => hsb (by injection e))).trans c1
  have d2 : w1.cell? ⟨L, 2, none⟩ = some (.map (some U)) := (World.grownBy.cell_far hg ⟨L, 2, none⟩ (cell_lt k2) (fun e => hUL (by injection e with e; exact e.symm))).trans k2
  clear hg hturn hown
  go_enter_d Tryd.func46, Tryd.ntmps46
  go_wp2_with fail
  go_region_held_law (fun w' => w'.cell? ⟨lb, 0, none⟩ = some (.pointer (some ⟨L, 0, none⟩)) ∧ w'.cell? ⟨sb, 0, none⟩ = some (.string s) ∧ w'.cell? ⟨L, 2, none⟩ = some (.map (some U))) (first | with_reducible exact ⟨c0, c1, k2⟩ | with_reducible exact ⟨d0, d1, d2⟩ | go_keep)
    (fail)
  go_end0
  exact ⟨rfl, HF.out.1, HF.out.2.undrew⟩

set_option maxRecDepth 10000 in
set_option maxHeartbeats 4000000 in
theorem work_any (b L P U um gf : Nat) (cb : Array Value) (X : List Nat) (v : Value) (N : List Nt) (B : List ByteArray) (cl : Bool) (s : ByteArray) (R : Int → Value → List Nt → Bool → Nat → World → Prop) (w : World) (hl : Led b w L P U v N B cl um) (hs : s.size ≤ maxLen) (hu : inB B s = false) (hum : um < 100000) (hb : b ≤ w.heap.size)
    (eg : ∀ args w, (callFunc gf args).run Tryd.prog w = .ok (.enter gf args) w)
    (hw : ∀ W, Led b W L P U v N (s :: B) cl (um + 1) → LKeep [] L P U v w v W → Calls Tryd.prog gf cb W fun e W' => ∃ r v2 N2 cl2 um2, e = .returned (.int .i64 r) ∧ Led b W' L P U v2 N2 (s :: B) cl2 um2 ∧ LKeep X L P U v W v2 W' ∧ R r v2 N2 cl2 um2 W')
    (hX : ∀ k ∈ X, k < w.heap.size)
    (hR : ∀ r v2 v3 N2 cl2 um2 W W', R r v2 N2 cl2 um2 W → LKeep [] L P U v2 W v3 W' → R r v3 N2 cl2 um2 W') :
    Calls Tryd.prog 38 #[.pointer (some ⟨L, 0, none⟩), .string s, .func (.func gf) #[] cb] w fun e w' => ∃ r v2 N2 cl2 um2, e = .returned (.int .i64 r) ∧ Led b w' L P U v2 N2 B cl2 um2 ∧ LKeep X L P U v w v2 w' ∧ R r v2 N2 cl2 um2 w' := by
  have hmf : ∀ (fn : Fn) (first cap : Array Value) (w : World), (Instr.makeFunc fn first cap).run Tryd.prog w = .ok (.func fn first cap) w := fun _ _ _ _ => rfl
  have HL := Lib.hid hl
  have HW := Lib.hid hw
  have HRS := Lib.hid hR
  have HX := Lib.hid hX
  clear hl hw hR hX
  go_enter_defers Tryd.func38, Tryd.ntmps38
  go_wp2_with fail
  have hw0 : Below w.heap.size w ((w.alloc (.cells #[.pointer (some ⟨L, 0, none⟩)] 24)).alloc (.cells #[.string s] 9)) := by (repeat' (first | with_reducible exact Below.refl _ _ | with_reducible assumption | with_reducible refine Below.drew ?_ | with_reducible refine below_drewN ?_ _ | with_reducible refine Below.setCell ?_ ?_ _ | with_reducible refine Below.alloc ?_ ?_ _ | omega | (simp; done) | (simp; omega)))
  have LB : Hid (((w.alloc (.cells #[.pointer (some ⟨L, 0, none⟩)] 24)).alloc (.cells #[.string s] 9)).heap[w.heap.size]? = some (.cells #[.pointer (some ⟨L, 0, none⟩)] 24 (0, 0))) := blk_old (blk_new rfl)
  have SB : Hid (((w.alloc (.cells #[.pointer (some ⟨L, 0, none⟩)] 24)).alloc (.cells #[.string s] 9)).heap[w.heap.size + 1]? = some (.cells #[.string s] 9 (0, 0))) := blk_new (by simp)
  generalize ((w.alloc (.cells #[.pointer (some ⟨L, 0, none⟩)] 24)).alloc (.cells #[.string s] 9)) = w0 at *
  have hl0 := HL.out.below hw0
  have z0 : w.heap.size + 1 < w0.heap.size := lt_of_H SB
  have BX := Lib.hid hl0.box
  have hkey := keyS_of hs
  obtain ⟨DU, hown, hat⟩ := hl0.under
  have hUL := ne_map BX.out hown
  obtain ⟨c9, hrunL, hat9, _⟩ := (World.ownsMap.drew hown).lookup_int lawS Tryd.underlying71 Tryd.underlying3 (zeroI _) hkey
  obtain rfl : (0 : Int) = c9 := by
    have h9 := (hat s hs).symm.trans hat9
    rw [hu] at h9
    injection h9 with h9
    injection h9
  obtain ⟨w1, hrunU, hown1, hgrow1⟩ := (World.ownsMap.drew hown).update lawS Tryd.underlying71 (by unfold maxLen; omega) (key := .string s) (val := .int .i64 1) hkey (plainElem_int Tryd.underlying3 (by decide))
  have HF := Lib.hid (Led.turn (w := w0.drew) hl0.drew hgrow1 hown1 (under_put hown.isMap hat))
  have hlU : U < w0.heap.size := hown.lt
  have k0 : w0.cell? ⟨w.heap.size, 0, none⟩ = some (.pointer (some ⟨L, 0, none⟩)) := cellH LB 0
  have k1 : w0.cell? ⟨w.heap.size + 1, 0, none⟩ = some (.string s) := cellH SB 0
  have k2 : w0.cell? ⟨L, 2, none⟩ = some (.map (some U)) := cellH BX 2
  have hUw : U < w.heap.size := by obtain ⟨_, h, _⟩ := HL.out.under; exact h.lt
  have d0 : w1.cell? ⟨w.heap.size, 0, none⟩ = some (.pointer (some ⟨L, 0, none⟩)) := (World.grownBy.cell_far hgrow1 ⟨w.heap.size, 0, none⟩ (cell_lt k0) (fun e => by injection e with e; dsimp only at e; omega)).trans k0
  have d1 : w1.cell? ⟨w.heap.size + 1, 0, none⟩ = some (.string s) := (World.grownBy.cell_far hgrow1 ⟨w.heap.size + 1, 0, none⟩ (cell_lt k1) (fun e => by injection e with e; dsimp only at e; omega)).trans k1
  have d2 : w1.cell? ⟨L, 2, none⟩ = some (.map (some U)) := (World.grownBy.cell_far hgrow1 ⟨L, 2, none⟩ (cell_lt k2) (fun e => hUL (by injection e with e; exact e.symm))).trans k2
  replace LB : Hid (w1.heap[w.heap.size]? = some (.cells #[.pointer (some ⟨L, 0, none⟩)] 24 (0, 0))) := (hgrow1.block w.heap.size (by show _ < w0.heap.size; omega) (fun e => by injection e with e; omega)).trans LB.out
  replace SB : Hid (w1.heap[w.heap.size + 1]? = some (.cells #[.string s] 9 (0, 0))) := (hgrow1.block (w.heap.size + 1) z0 (fun e => by injection e with e; omega)).trans SB.out
  have z1 : w0.heap.size ≤ w1.heap.size := hgrow1.size
  have HK1 : Hid (LKeep [] L P U v w v w1) := (LKeep.ofBelow hw0).trans HF.out.2.undrew
  clear hl0 hown hat hat9 hown1 hgrow1
  have hwr1 : IntKind.i64.wrap 1 = 1 := by decide
  go_region_held3 (fun w' => w'.cell? ⟨w.heap.size, 0, none⟩ = some (.pointer (some ⟨L, 0, none⟩)) ∧ w'.cell? ⟨w.heap.size + 1, 0, none⟩ = some (.string s) ∧ w'.cell? ⟨L, 2, none⟩ = some (.map (some U))) (first | with_reducible exact ⟨k0, k1, k2⟩ | with_reducible exact ⟨d0, d1, d2⟩ | go_keep)
    (fail)
  have HC := Lib.hid (HW.out w1 HF.out.1 HK1.out)
  clear hrunL hrunU k0 k1 k2 d0 d1 d2
  go_wp2_with (go_at_fn gf; go_must (refine HC.out.mono ?_); rintro e w2 ⟨r, v2, N2, cl2, um2, rfl, hl2, hk2, hr2⟩)
  have HL2 := Lib.hid hl2
  have HK2 := Lib.hid hk2
  have HR2 := Lib.hid hr2
  have hn0 : ∀ k, w.heap.size ≤ k → k < w1.heap.size → w2.heap[k]? = w1.heap[k]? := fun k h1 h2 => hk2.block k h2 (by have := HL.out.lt; omega) (by obtain ⟨_, _, _, h, _⟩ := HL.out.places; have := h.lt; omega) (by omega) (fun e => by have := (HL.out.own.lt k e).2; omega) (fun e => by have := HX.out k e; omega)
  have LB2 : Hid (w2.heap[w.heap.size]? = some (.cells #[.pointer (some ⟨L, 0, none⟩)] 24 (0, 0))) := (hn0 _ (Nat.le_refl _) (by omega)).trans LB.out
  have SB2 : Hid (w2.heap[w.heap.size + 1]? = some (.cells #[.string s] 9 (0, 0))) := (hn0 _ (by omega) (by omega)).trans SB.out
  clear hl2 hk2 hr2 hn0
  refine leaves_cons (f := 46) (args := #[.pointer (some ⟨w.heap.size, 0, none⟩), .pointer (some ⟨w.heap.size + 1, 0, none⟩)]) (by simp) (by simp [go_sem]) ?_
  refine (drop_deferred b L P U um2 w.heap.size (w.heap.size + 1) v2 N2 B cl2 s .returning w2 HL2.out hs hu (by omega) (by omega) (cellH LB2 0) (cellH SB2 0)).mono ?_
  rintro e u' w3 ⟨rfl, rfl, hl3, hk3⟩
  exact ⟨_, results_tmp rfl _ _ _, ⟨r, v2, N2, cl2, um2, rfl, hl3, ((HK1.out.wider (fun k h => by cases h)).trans HK2.out).trans (hk3.wider (fun k h => by cases h)), HRS.out r v2 v2 N2 cl2 um2 w2 w3 HR2.out hk3⟩⟩

/-- sentinels that lie below a block stay -/
theorem env_keep {L : List Nat} {E : Nat → Addr} {b : Nat} {w w' : World} (h : Env L E w) (hb : Below b w w') (hL : ∀ g ∈ L, g < b ∧ (E g).block < b) : Env L E w' := ⟨fun g hg => by
  obtain ⟨h1, h2, h3, c, t, h4⟩ := h.sent g hg
  obtain ⟨b1, b2⟩ := hL g hg
  have := hb.size
  exact ⟨(hb.cell (p := ⟨g, 0, none⟩) b1).trans h1, by omega, by omega, c, t, (hb.block _ b2).trans h4⟩, h.inj⟩

set_option maxRecDepth 10000 in
set_option maxHeartbeats 4000000 in
theorem once_has (b L P U um : Nat) (f : Value) (v : Value) (N : List Nt) (B : List ByteArray) (cl : Bool) (s : ByteArray) (i : Nat) (y : Nt) (w : World) (hl : Led b w L P U v N B cl um) (hs : s.size ≤ maxLen) (hi : idxN N s = some i) (hy : N[i]? = some y) :
    Calls Tryd.prog 12 #[.pointer (some ⟨L, 0, none⟩), .string s, f] w fun e w' => e = .returned (.tuple #[.int .i64 y.2, .nilIface]) ∧ Below w.heap.size w w' := by
  have HV := Lib.hid (value_any b L P U um v N B cl s w hl hs)
  have HI := Lib.hid hi
  have HY : Hid ((N[i]?.map (·.2)).getD 0 = y.2) := by show _ = _; rw [hy]; rfl
  clear hl hi hy
  go_enter Tryd.func12, Tryd.ntmps12
  go_wp2_with fail
  refine HV.out.mono ?_
  rintro e w1 ⟨rfl, hb1⟩
  rw [HI.out]
  dsimp only
  rw [HY.out]
  go_wp2_with fail
  go_ret2
  exact ⟨rfl, hb1⟩

set_option maxRecDepth 10000 in
set_option maxHeartbeats 4000000 in
theorem once_no (b L P U um : Nat) (f : Value) (v : Value) (N : List Nt) (B : List ByteArray) (cl : Bool) (s : ByteArray) (nb : Bool) (g : Nat) (E : Nat → Addr) (w : World) (hl : Led b w L P U v N B cl um) (hs : s.size ≤ maxLen) (hE : Env L5 E w) (hi : idxN N s = none)
    (hN : NameAt w s nb) (hm : mayE nb N B cl s 0 = some g) :
    Calls Tryd.prog 12 #[.pointer (some ⟨L, 0, none⟩), .string s, f] w fun e w' => e = .returned (.tuple #[.int .i64 0, errV5 E (some g)]) ∧ Below w.heap.size w w' := by
  have HV := Lib.hid (value_any b L P U um v N B cl s w hl hs)
  have HI := Lib.hid hi
  have HC := Lib.hid (fun w' (h : Below w.heap.size w w') => may_any b L P U um v N B cl s nb 0 E w' (hl.below h) hs (hE.below h) (hN.below h))
  have HM := Lib.hid hm
  have e0 := Lib.hid (fun w' (h : Below w.heap.size w w') => (hE.below h).cell 0 (by decide))
  have hen := fun w => eql_nil (E g) w
  clear hl hi hN hm hE
  go_enter Tryd.func12, Tryd.ntmps12
  go_wp2_with fail
  refine HV.out.mono ?_
  rintro e w1 ⟨rfl, hb1⟩
  rw [HI.out]
  dsimp only
  have e1 := e0.out w1 hb1
  go_wp2_with fail
  refine (HC.out w1 hb1).mono ?_
  rintro e w2 ⟨rfl, hb2⟩
  rw [HM.out]
  have he : errV5 E (some g) = .iface 98 (.pointer (some (E g))) := rfl
  rw [he]
  have hw2 : Below w.heap.size w w2 := stepH hb1 hb2
  go_wp2_with fail
  go_ret2
  exact ⟨rfl, hw2⟩

set_option maxRecDepth 10000 in
set_option maxHeartbeats 4000000 in
theorem once_ok (b L P U um gf : Nat) (cb : Array Value) (X : List Nat) (v : Value) (N : List Nt) (B : List ByteArray) (cl : Bool) (s : ByteArray) (nb : Bool) (R : Int → Value → List Nt → Bool → Nat → World → Prop) (E : Nat → Addr) (w : World) (hl : Led b w L P U v N B cl um) (hs : s.size ≤ maxLen) (hum : um < 100000) (hb : b ≤ w.heap.size) (hE : Env L5 E w) (hbE : ∀ g ∈ L5, g < b ∧ (E g).block < b)
    (hN : NameAt w s nb) (hm : mayE nb N B cl s 0 = none)
    (eg : ∀ args w, (callFunc gf args).run Tryd.prog w = .ok (.enter gf args) w)
    (hw : ∀ W, Led b W L P U v N (s :: B) cl (um + 1) → LKeep [] L P U v w v W → Calls Tryd.prog gf cb W fun e W' => ∃ r v2 N2 cl2 um2, e = .returned (.int .i64 r) ∧ Led b W' L P U v2 N2 (s :: B) cl2 um2 ∧ LKeep X L P U v W v2 W' ∧ (R r v2 N2 cl2 um2 W' ∧ cl2 = false ∧ idxN N2 s = none ∧ N2.length < 200))
    (hX : ∀ k ∈ X, b ≤ k ∧ k < w.heap.size)
    (hR : ∀ r v2 v3 N2 cl2 um2 W W', R r v2 N2 cl2 um2 W → LKeep [] L P U v2 W v3 W' → R r v3 N2 cl2 um2 W') :
    Calls Tryd.prog 12 #[.pointer (some ⟨L, 0, none⟩), .string s, .func (.func gf) #[] cb] w fun e w' => ∃ r v3 N2 um2, e = .returned (.tuple #[.int .i64 r, .nilIface]) ∧ Led b w' L P U v3 (N2 ++ [(s, r)]) B false um2 ∧ LKeep X L P U v w v3 w' ∧ R r v3 N2 false um2 w' := by
  obtain ⟨m1, m2, m3, m4, m5⟩ := mayE_none hm
  have HV := Lib.hid (value_any b L P U um v N B cl s w hl hs)
  have HI := Lib.hid m3
  have HC := Lib.hid (fun w' (h : Below w.heap.size w w') => may_any b L P U um v N B cl s nb 0 E w' (hl.below h) hs (hE.below h) (hN.below h))
  have HM := Lib.hid hm
  have e0 := Lib.hid (fun w' (h : Below w.heap.size w w') => (hE.below h).cell 0 (by decide))
  have HL := Lib.hid hl
  have HE := Lib.hid hE
  have HR := Lib.hid hR
  have HWK := Lib.hid (fun w' (h : Below w.heap.size w w') => work_any b L P U um gf cb X v N B cl s (fun r v2 N2 cl2 um2 W => R r v2 N2 cl2 um2 W ∧ cl2 = false ∧ idxN N2 s = none ∧ N2.length < 200) w' (hl.below h) hs m4 hum (by have := h.size; omega) eg
    (fun W h1 h2 => hw W h1 ((LKeep.ofBelow h).trans h2)) (fun k hk => by have := h.size; have := (hX k hk).2; omega) (fun r v2 v3 N2 cl2 um2 W W' h1 h2 => ⟨hR r v2 v3 N2 cl2 um2 W W' h1.1 h2, h1.2⟩))
  have HXB := Lib.hid hX
  have HBE := Lib.hid hbE
  clear hl hN hm hE hw hR hX m1 m2 m3 m4 m5 hbE
  go_enter Tryd.func12, Tryd.ntmps12
  go_wp2_with fail
  refine HV.out.mono ?_
  rintro e w1 ⟨rfl, hb1⟩
  rw [HI.out]
  dsimp only
  have e1 := e0.out w1 hb1
  go_wp2_with fail
  refine (HC.out w1 hb1).mono ?_
  rintro e w2 ⟨rfl, hb2⟩
  rw [HM.out]
  have he : errV5 E none = .nilIface := rfl
  rw [he]
  have hw2 : Below w.heap.size w w2 := stepH hb1 hb2
  clear e1 hb1 hb2
  go_wp2_with fail
  refine (HWK.out w2 hw2).mono ?_
  rintro e w3 ⟨r, v2, N2, cl2, um2, rfl, hl3, hk3, hr3, rfl, hi3, hn3⟩
  have HL3 := Lib.hid hl3
  have HK3 := Lib.hid hk3
  have HR3 := Lib.hid hr3
  have HI3 := Lib.hid hi3
  have hb3 : Below b w2 w3 := hk3.below HL.out.hL HL.out.hP HL.out.hU (fun k h => (HL.out.own.lt k h).1) (fun k h => (HXB.out k h).1) (by have := hw2.size; omega)
  have hE3 : Env L5 E w3 := env_keep (HE.out.below hw2) hb3 HBE.out
  have HE3 := Lib.hid hE3
  have HRM : Hid (roomE false N2.length = none) := by show _ = _; unfold roomE; rw [if_neg (by decide), if_neg (by omega)]
  have z2 := hw2.size
  have z3 := hb3.size
  clear hl3 hk3 hr3 hi3 hE3 hb3
  go_wp2_with fail
  refine (room_any b L P U um2 v2 N2 B false E w3 HL3.out HE3.out).mono ?_
  rintro e w4 ⟨rfl, hb4⟩
  rw [HRM.out, he]
  have z4 := hb4.size
  go_wp2_with fail
  refine (write_any b L P U um2 v2 N2 B false s r w4 (HL3.out.below hb4) hs HI3.out hn3 (by omega)).mono ?_
  rintro e w5 ⟨rfl, v5, hl5, hk5⟩
  have HL5 := Lib.hid hl5
  have HK5 : Hid (LKeep [] L P U v2 w3 v5 w5) := (LKeep.ofBelow hb4).trans hk5
  clear hl5 hk5
  go_wp2_with fail
  go_ret2
  exact ⟨r, v5, N2, um2, rfl, HL5.out, ((LKeep.ofBelow hw2).trans HK3.out).trans (HK5.out.wider (fun k h => by cases h)), HR.out r v2 v5 N2 false um2 w3 w5 HR3.out HK5.out⟩

end Go.Proofs.YtodlbfekoohpoaaDoor
