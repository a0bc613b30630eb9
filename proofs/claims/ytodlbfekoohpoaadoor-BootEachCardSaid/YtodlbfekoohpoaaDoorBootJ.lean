/- A ring of steps: each asks for the next one: the closure's walk, by induction on the steps that are left. -/
import Derived.Test.YtodlbfekoohpoaaDoorBootI
namespace Go.Proofs.YtodlbfekoohpoaaDoor
open Go.RowKit

def ringB (n f : Nat) : Nat → List ByteArray
  | 0 => []
  | k + 1 => nameS ((f + k) % n) :: ringB n f k
def ringN (n f : Nat) : Nat → List Nt
  | 0 => []
  | d + 1 => ringN n f d ++ [(nameS ((f + (n - 1 - d)) % n), ((d + 1 : Nat) : Int))]
theorem ringN_len (n f d : Nat) : (ringN n f d).length = d := by
  induction d with
  | zero => rfl
  | succ d ih => show (ringN n f d ++ [_]).length = _; rw [List.length_append, ih]; rfl
theorem mod2 {n f a : Nat} (hf : f < n) (ha : a < n) : (f + a) % n = if f + a < n then f + a else f + a - n := by
  by_cases h : f + a < n
  · rw [if_pos h, Nat.mod_eq_of_lt h]
  · rw [if_neg h, Nat.mod_eq_sub_mod (by omega), Nat.mod_eq_of_lt (by omega)]
theorem ring_ne {n f a c : Nat} (hn : n ≤ 60) (hf : f < n) (ha : a < n) (hc : c < n) (hne : a ≠ c) : nameS ((f + a) % n) ≠ nameS ((f + c) % n) := fun e => by
  have h0 : 0 < n := by omega
  have h1 := Nat.mod_lt (f + a) h0
  have h2 := Nat.mod_lt (f + c) h0
  have := nameS_inj (by omega) (by omega) e
  rw [mod2 hf ha, mod2 hf hc] at this
  split at this <;> split at this <;> omega
theorem inB_ring {n f a : Nat} (hn : n ≤ 60) (hf : f < n) (ha : a < n) : ∀ k, k ≤ a → inB (ringB n f k) (nameS ((f + a) % n)) = false
  | 0, _ => rfl
  | k + 1, h => by
    show inB (nameS ((f + k) % n) :: ringB n f k) _ = false
    rw [inB_ne (ring_ne hn hf ha (by omega) (by omega)), inB_ring hn hf ha k (by omega)]
theorem inB_last {n f : Nat} : ∀ k, 1 ≤ k → inB (ringB n f k) (nameS (f % n)) = true
  | 1, _ => inB_self
  | k + 2, _ => by
    have ih : (ringB n f (k + 1)).any _ = true := inB_last (n := n) (f := f) (k + 1) (by omega)
    show (nameS ((f + (k + 1)) % n) :: ringB n f (k + 1)).any _ = true
    rw [List.any_cons, ih, Bool.or_true]
theorem idx_ring {n f : Nat} (hn : n ≤ 60) (hf : f < n) : ∀ d a, d ≤ n → a < n - d → idxN (ringN n f d) (nameS ((f + a) % n)) = none
  | 0, _, _, _ => rfl
  | d + 1, a, hd, ha => by
    show idxN (ringN n f d ++ [_]) _ = none
    rw [idxN_snoc (idx_ring hn hf d (n - 1 - d) (by omega) (by omega)), if_neg (ring_ne hn hf (by omega) (by omega) (by omega)), idx_ring hn hf d a (by omega) (by omega)]
theorem idx_first {n f : Nat} (hn : n ≤ 60) (hf : f < n) : idxN (ringN n f n) (nameS f) = some (n - 1) := by
  obtain ⟨d, rfl⟩ : ∃ d, n = d + 1 := ⟨n - 1, by omega⟩
  show idxN (ringN (d + 1) f d ++ [_]) _ = _
  rw [idxN_snoc (idx_ring hn hf d (d + 1 - 1 - d) (by omega) (by omega)), if_pos (by rw [show d + 1 - 1 - d = 0 by omega, Nat.add_zero, Nat.mod_eq_of_lt hf]), ringN_len]
  rfl
theorem may_free {s : ByteArray} {B : List ByteArray} {g : Nat} (h1 : nameB s = true) (h2 : inB B s = false) : mayE (nameB s) [] B false s g = none := by
  simp [mayE, h1, h2, idxN, roomE]
theorem may_busy {s : ByteArray} {B : List ByteArray} {g : Nat} (h1 : nameB s = true) (h2 : inB B s = true) : mayE (nameB s) [] B false s g = some g := by
  simp [mayE, h1, h2, idxN]
theorem eql_nilL (a : Addr) (w : World) : (binOp .eql 31 .nilIface (.iface 98 (.pointer (some a)))).run Tryd.prog w = .ok (.bool false) w := by kernel_rfl

section
variable {b L P U um : Nat} {E : Nat → Addr} {m : Int} {w w' : World} {v v' : Value} {N : List Nt} {B : List ByteArray} {cl : Bool}
theorem Led.set {c : Nat} (hl : Led b w L P U v N B cl um) (hf : Far L P U v w c) (u : Value) : Led b (w.setCell ⟨c, 0, none⟩ u) L P U v N B cl um ∧ LKeep [c] L P U v w v (w.setCell ⟨c, 0, none⟩ u) := by
  obtain ⟨n, DP, h1, h2, h3⟩ := hl.places
  obtain ⟨DU, h4, h5⟩ := hl.under
  have hs2 : Below 0 w (w.setCell ⟨c, 0, none⟩ u) := (Below.refl 0 w).setCell (Nat.zero_le _) _
  exact ⟨⟨hl.hL, hl.hP, hl.hU, hl.ne, (Below.heap_setCell _ _ _ _ (fun e => hf.nL e.symm)).trans hl.box, own_setOther hl.own (fun k e e2 => hf.nv (by rw [← e2]; exact e)), ⟨n, DP, h1, h2.setCell (fun e => hf.nP e.symm) _, h3⟩, ⟨DU, h4.setCell (fun e => hf.nU e.symm) _, h5⟩, hl.len⟩,
    ⟨hs2.os, hs2.tape, hs2.output, hs2.size, fun k hk _ _ _ _ h5 => Below.heap_setCell _ _ _ _ (fun e => h5 (by simp [e])), fun k e => .inl e⟩⟩
theorem Box.set {k : Nat} {a : Value} {t : TypeId} (h : Box L P U v w k (.cells #[a] t (0, 0))) (u : Value) : Box L P U v (w.setCell ⟨k, 0, none⟩ u) k (.cells #[u] t (0, 0)) := by
  obtain ⟨⟨h1, h2, h3, h4, h5⟩, h6⟩ := h
  exact ⟨⟨by rw [show (w.setCell ⟨k, 0, none⟩ u).heap.size = w.heap.size by simp [World.setCell]]; exact h1, h2, h3, h4, h5⟩, by simp [World.setCell, Array.getElem?_modify, h6]⟩
theorem Box.new (h : Led b w L P U v N B cl um) (o : Obj) : Box L P U v (w.alloc o) w.heap.size o := by
  obtain ⟨_, _, _, h2, _⟩ := h.places
  obtain ⟨_, h3, _⟩ := h.under
  have l1 := h.lt
  have l2 := h2.lt
  have l3 := h3.lt
  exact ⟨⟨by rw [show (w.alloc o).heap.size = w.heap.size + 1 from Array.size_push _]; omega, by omega, by omega, by omega, fun e => by have := (h.own.lt _ e).2; omega⟩, blk_new rfl⟩
end

/-- what the law's variables hold while the ring is asked -/
structure Ring (n L P U lB nB aB cB oB : Nat) (v : Value) (w : World) : Prop where
  l : Box L P U v w lB (.cells #[.pointer (some ⟨L, 0, none⟩)] 24 (0, 0))
  n : Box L P U v w nB (.cells #[.int .i64 n] 3 (0, 0))
  a : Box L P U v w aB (.cells #[.func (.func 21) #[] #[.pointer (some ⟨lB, 0, none⟩), .pointer (some ⟨nB, 0, none⟩), .pointer (some ⟨aB, 0, none⟩), .pointer (some ⟨cB, 0, none⟩), .pointer (some ⟨oB, 0, none⟩)]] 49 (0, 0))
  o : Box L P U v w oB (.cells #[.int .i64 0] 3 (0, 0))
  ne : cB ≠ lB ∧ cB ≠ nB ∧ cB ≠ aB ∧ cB ≠ oB
theorem Ring.keep {n L P U lB nB aB cB oB : Nat} {v v' : Value} {w w' : World} {X : List Nat} (h : Ring n L P U lB nB aB cB oB v w) (hk : LKeep X L P U v w v' w') (hX : ∀ k ∈ X, k = cB) : Ring n L P U lB nB aB cB oB v' w' :=
  ⟨hk.box h.l (fun e => h.ne.1 (hX _ e).symm), hk.box h.n (fun e => h.ne.2.1 (hX _ e).symm), hk.box h.a (fun e => h.ne.2.2.1 (hX _ e).symm), hk.box h.o (fun e => h.ne.2.2.2 (hX _ e).symm), h.ne⟩

theorem call_in : ∀ args w, (callFunc 23 args).run Tryd.prog w = .ok (.enter 23 args) w := fun _ _ => by simp [go_sem]

set_option maxRecDepth 10000 in
set_option maxHeartbeats 8000000 in
theorem ask_any (n f : Nat) (hn1 : 1 ≤ n) (hn2 : n ≤ 60) (hf : f < n) (b L P U lB nB aB cB oB : Nat) (E : Nat → Addr) (m : Int) (hc : b ≤ cB) : ∀ (d k : Nat) (x : Int) (w : World) (v : Value) (um : Nat), k + d = n → x = ((f + k : Nat) : Int) → St b E m L P U w v [] (ringB n f k) false um → um ≤ k → Ring n L P U lB nB aB cB oB v w → Box L P U v w cB (.cells #[.int .i64 0] 3 (0, 0)) →
    Calls Tryd.prog 21 #[.int .i64 x, .pointer (some ⟨lB, 0, none⟩), .pointer (some ⟨nB, 0, none⟩), .pointer (some ⟨aB, 0, none⟩), .pointer (some ⟨cB, 0, none⟩), .pointer (some ⟨oB, 0, none⟩)] w fun e w' => ∃ v' um', e = .returned (.int .i64 (d : Nat)) ∧ St b E m L P U w' v' (ringN n f d) (ringB n f k) false um' ∧ LKeep [cB] L P U v w v' w' ∧ Box L P U v' w' cB (.cells #[.int .i64 1] 3 (0, 0)) ∧ um' ≤ n := by
  intro d
  induction d with
  | zero =>
    intro k x w v um hkd hx h hu hr hcx
    obtain rfl : k = n := by omega
    have hj : (f + k) % k = f := by rw [Nat.add_mod_right, Nat.mod_eq_of_lt hf]
    have q1 : x.tmod (k : Int) = (f : Int) := by rw [hx, Int.tmod_eq_emod_of_nonneg (by omega), ← Int.natCast_emod, hj]
    have hn0 : ¬ (k : Int) = 0 := by omega
    have hnm := nameS_ok (i := f) (by omega)
    have HM := Lib.hid (may_busy (g := 0) hnm.1 (by have := inB_last (n := k) (f := f) k hn1; rw [Nat.mod_eq_of_lt hf] at this; exact this))
    obtain ⟨w1, h1⟩ : ∃ w1, w.alloc (.cells #[.int .i64 x] 3) = w1 := ⟨_, rfl⟩
    have hb1 : Below w.heap.size w w1 := by rw [← h1]; (repeat' (first | with_reducible exact Below.refl _ _ | with_reducible assumption | with_reducible refine Below.drew ?_ | with_reducible refine below_drewN ?_ _ | with_reducible refine Below.setCell ?_ ?_ _ | with_reducible refine Below.alloc ?_ ?_ _ | omega | (simp; done) | (simp; omega)))
    have S1 := Lib.hid (h.below hb1)
    have R1 := Lib.hid (hr.keep (LKeep.ofBelow (X := []) hb1) (by simp))
    have C1 := Lib.hid (hcx.below hb1)
    have I1 : Hid (Box L P U v w1 w.heap.size (.cells #[.int .i64 x] 3 (0, 0))) := Lib.hid (by rw [← h1]; exact Box.new h.led _)
    have HB1 := Lib.hid hb1
    have hmf : ∀ (fn : Fn) (first cap : Array Value) (w : World), (Instr.makeFunc fn first cap).run Tryd.prog w = .ok (.func fn first cap) w := fun _ _ _ _ => rfl
    have hen := fun w => eql_err (E 0) w
    have HC := Lib.hid (fun W (hW : Below w1.heap.size w1 W) fv => (S1.out.below hW).onceNo (nameS f) fv 0 hnm.2 rfl HM.out)
    have k0 : w1.cell? ⟨lB, 0, none⟩ = some (.pointer (some ⟨L, 0, none⟩)) := R1.out.l.cell 0
    have k1 : w1.cell? ⟨nB, 0, none⟩ = some (.int .i64 (k : Nat)) := R1.out.n.cell 0
    have k2 : w1.cell? ⟨w.heap.size, 0, none⟩ = some (.int .i64 x) := I1.out.cell 0
    obtain ⟨z, hz⟩ : ∃ z : Int, (k : Int) = z := ⟨_, rfl⟩
    have x0 : 0 ≤ x := by omega
    have x1 : x ≤ 120 := by omega
    have z1 : 1 ≤ z := by omega
    have z2 : z ≤ 60 := by omega
    rw [hz] at k1 q1 hn0
    clear h hr hcx hx hj hb1 hkd hz
    go_enter Tryd.func21, Tryd.ntmps21
    go_wp2_with fail
    go_region_held3 (fun w' => w'.cell? ⟨lB, 0, none⟩ = some (.pointer (some ⟨L, 0, none⟩)) ∧ w'.cell? ⟨nB, 0, none⟩ = some (.int .i64 z) ∧ w'.cell? ⟨w.heap.size, 0, none⟩ = some (.int .i64 x)) (first | with_reducible exact ⟨k0, k1, k2⟩ | go_keep)
      (first | (go_at_call 22; refine (nameL_any f _ (by omega)).mono ?_; rintro e w2 ⟨rfl, hb2⟩; have hw2 : Below w1.heap.size w1 w2 := stepH (by (repeat' (first | with_reducible exact Below.refl _ _ | with_reducible assumption | with_reducible refine Below.drew ?_ | with_reducible refine below_drewN ?_ _ | with_reducible refine Below.setCell ?_ ?_ _ | with_reducible refine Below.alloc ?_ ?_ _ | omega | (simp; done) | (simp; omega)))) hb2; replace k0 := cellOf hw2 k0; replace k1 := cellOf hw2 k1; replace k2 := cellOf hw2 k2) | (go_at_call 12; refine (HC.out _ (by (repeat' (first | with_reducible exact Below.refl _ _ | with_reducible assumption | with_reducible refine Below.drew ?_ | with_reducible refine below_drewN ?_ _ | with_reducible refine Below.setCell ?_ ?_ _ | with_reducible refine Below.alloc ?_ ?_ _ | omega | (simp; done) | (simp; omega)))) _).mono ?_; rintro e w3 ⟨rfl, s3, hb3⟩; have hw3 : Below w1.heap.size w1 w3 := stepH (by (repeat' (first | with_reducible exact Below.refl _ _ | with_reducible assumption | with_reducible refine Below.drew ?_ | with_reducible refine below_drewN ?_ _ | with_reducible refine Below.setCell ?_ ?_ _ | with_reducible refine Below.alloc ?_ ?_ _ | omega | (simp; done) | (simp; omega)))) hb3; replace k0 := cellOf hb3 (by first | exact k0 | exact cell_drew k0); replace k1 := cellOf hb3 (by first | exact k1 | exact cell_drew k1); replace k2 := cellOf hb3 (by first | exact k2 | exact cell_drew k2)))
    all_goals (
      have e1 := s3.env.cell 0 (by decide)
      have C3 := Lib.hid (C1.out.below hw3)
      have c0 : w3.cell? ⟨cB, 0, none⟩ = some (.int .i64 0) := C3.out.cell 0
      have cF := frozH (Lib.hid C3.out.2)
      have cL := C3.out.1.lt
      have S3 := Lib.hid s3
      clear s3 k0 k1 k2
      go_wp2_with fail
      go_ret
      have Q := S3.out.led.set C3.out.1 (.int .i64 1)
      exact ⟨v, um, rfl, S3.out.keep Q.1 Q.2 (by simp [hc]), (((LKeep.ofBelow HB1.out).trans (LKeep.ofBelow hw3)).trans Q.2), C3.out.set _, hu⟩)
  | succ d ih =>
    intro k x w v um hkd hx h hu hr hcx
    have hjlt : (f + k) % n < n := Nat.mod_lt _ (by omega)
    have q1 : x.tmod (n : Int) = (((f + k) % n : Nat) : Int) := by rw [hx, Int.tmod_eq_emod_of_nonneg (by omega), ← Int.natCast_emod]
    have hn0 : ¬ (n : Int) = 0 := by omega
    have hnm := nameS_ok (i := (f + k) % n) (by omega)
    have HM := Lib.hid (may_free (g := 0) hnm.1 (inB_ring hn2 hf (a := k) (by omega) k (Nat.le_refl _)))
    have HIX := Lib.hid (idx_ring hn2 hf d k (by omega) (by omega))
    have HRN : Hid (ringN n f (d + 1) = ringN n f d ++ [(nameS ((f + k) % n), ((d + 1 : Nat) : Int))]) := by
      show ringN n f d ++ [(nameS ((f + (n - 1 - d)) % n), _)] = _
      rw [show n - 1 - d = k by omega]
    have hdl : (d : Int) ≤ 60 := by omega
    have x0 : 0 ≤ x := by omega
    have x1 : x ≤ 120 := by omega
    have HIN : Hid (∀ W, St b E m L P U W v [] (nameS ((f + k) % n) :: ringB n f k) false (um + 1) → Ring n L P U lB nB aB cB oB v W → Box L P U v W cB (.cells #[.int .i64 0] 3 (0, 0)) → Box L P U v W w.heap.size (.cells #[.int .i64 x] 3 (0, 0)) →
        Calls Tryd.prog 23 #[.pointer (some ⟨aB, 0, none⟩), .pointer (some ⟨w.heap.size, 0, none⟩)] W fun e W' => ∃ v2 um2, e = .returned (.int .i64 (d + 1 : Nat)) ∧ St b E m L P U W' v2 (ringN n f d) (nameS ((f + k) % n) :: ringB n f k) false um2 ∧ LKeep [cB] L P U v W v2 W' ∧ Box L P U v2 W' cB (.cells #[.int .i64 1] 3 (0, 0)) ∧ um2 ≤ n) := by
      intro W hS hR hC hI
      have IH := Lib.hid (ih (k + 1) (x + 1) W v (um + 1) (by omega) (by omega) hS (by omega) hR hC)
      have a0 : W.cell? ⟨aB, 0, none⟩ = some (.func (.func 21) #[] #[.pointer (some ⟨lB, 0, none⟩), .pointer (some ⟨nB, 0, none⟩), .pointer (some ⟨aB, 0, none⟩), .pointer (some ⟨cB, 0, none⟩), .pointer (some ⟨oB, 0, none⟩)]) := hR.a.cell 0
      have a1 : W.cell? ⟨w.heap.size, 0, none⟩ = some (.int .i64 x) := hI.cell 0
      clear hS hR hC hI q1 hn0 h hr hcx hx ih
      go_enter Tryd.func23, Tryd.ntmps23
      go_wp2_with fail
      refine IH.out.mono ?_
      rintro e W1 ⟨v2, um2, rfl, s2, k2, c2, u2⟩
      have S2 := Lib.hid s2
      have K2 := Lib.hid k2
      have C2 := Lib.hid c2
      clear s2 k2 c2
      go_wp2_with fail
      go_ret
      exact ⟨v2, um2, ret_int (by omega), S2.out, K2.out, C2.out, u2⟩
    obtain ⟨w1, h1⟩ : ∃ w1, w.alloc (.cells #[.int .i64 x] 3) = w1 := ⟨_, rfl⟩
    have hb1 : Below w.heap.size w w1 := by rw [← h1]; (repeat' (first | with_reducible exact Below.refl _ _ | with_reducible assumption | with_reducible refine Below.drew ?_ | with_reducible refine below_drewN ?_ _ | with_reducible refine Below.setCell ?_ ?_ _ | with_reducible refine Below.alloc ?_ ?_ _ | omega | (simp; done) | (simp; omega)))
    have S1 := Lib.hid (h.below hb1)
    have R1 := Lib.hid (hr.keep (LKeep.ofBelow (X := []) hb1) (by simp))
    have C1 := Lib.hid (hcx.below hb1)
    have I1 : Hid (Box L P U v w1 w.heap.size (.cells #[.int .i64 x] 3 (0, 0))) := Lib.hid (by rw [← h1]; exact Box.new h.led _)
    have HB1 := Lib.hid hb1
    have hmf : ∀ (fn : Fn) (first cap : Array Value) (w : World), (Instr.makeFunc fn first cap).run Tryd.prog w = .ok (.func fn first cap) w := fun _ _ _ _ => rfl
    have hen := fun w => eql_nilL (E 0) w
    have HC := Lib.hid (fun W2 (hW : Below w1.heap.size w1 W2) => (S1.out.below hW).onceOk (X := [cB]) (nameS ((f + k) % n)) 23 #[.pointer (some ⟨aB, 0, none⟩), .pointer (some ⟨w.heap.size, 0, none⟩)]
      (fun r v2 N2 cl2 um2 W => r = ((d + 1 : Nat) : Int) ∧ N2 = ringN n f d ∧ um2 ≤ n ∧ Box L P U v2 W cB (.cells #[.int .i64 1] 3 (0, 0))) hnm.2 (by omega) HM.out call_in
      (fun W hS hk => (HIN.out W hS ((R1.out.keep (LKeep.ofBelow (X := []) hW) (by simp)).keep hk (by simp)) (hk.box (C1.out.below hW) (by simp)) (hk.box (I1.out.below hW) (by simp))).mono (fun e W' q => by
        obtain ⟨v2, um2, he, hq, hk2, hc2, hu2⟩ := q
        exact ⟨_, v2, _, false, um2, he, hq, hk2, ⟨rfl, rfl, hu2, hc2⟩, rfl, HIX.out, by rw [ringN_len]; omega⟩))
      (fun j hj => by rw [List.mem_singleton.1 hj]; exact ⟨hc, (C1.out.below hW).1.lt⟩)
      (fun r v2 v3 N2 cl2 um2 W W' h hk => ⟨h.1, h.2.1, h.2.2.1, hk.box h.2.2.2 (by simp)⟩))
    have k0 : w1.cell? ⟨lB, 0, none⟩ = some (.pointer (some ⟨L, 0, none⟩)) := R1.out.l.cell 0
    have k1 : w1.cell? ⟨nB, 0, none⟩ = some (.int .i64 (n : Nat)) := R1.out.n.cell 0
    have k2 : w1.cell? ⟨w.heap.size, 0, none⟩ = some (.int .i64 x) := I1.out.cell 0
    obtain ⟨z, hz⟩ : ∃ z : Int, (n : Int) = z := ⟨_, rfl⟩
    have z1 : 1 ≤ z := by omega
    have z2 : z ≤ 60 := by omega
    have hzz := Lib.hid hz
    have hci : Hid (w.heap.size ≠ cB) := fun e => by have := hcx.1.lt; omega
    rw [hz] at k1 q1 hn0
    clear h hr hcx hx hb1 hkd hz ih hdl
    go_enter Tryd.func21, Tryd.ntmps21
    go_wp2_with fail
    go_region_held3 (fun w' => w'.cell? ⟨lB, 0, none⟩ = some (.pointer (some ⟨L, 0, none⟩)) ∧ w'.cell? ⟨nB, 0, none⟩ = some (.int .i64 z) ∧ w'.cell? ⟨w.heap.size, 0, none⟩ = some (.int .i64 x)) (first | with_reducible exact ⟨k0, k1, k2⟩ | go_keep)
      (first | (go_at_call 22; refine (nameL_any ((f + k) % n) _ (by omega)).mono ?_; rintro e w2 ⟨rfl, hb2⟩; have hw2 : Below w1.heap.size w1 w2 := stepH (by (repeat' (first | with_reducible exact Below.refl _ _ | with_reducible assumption | with_reducible refine Below.drew ?_ | with_reducible refine below_drewN ?_ _ | with_reducible refine Below.setCell ?_ ?_ _ | with_reducible refine Below.alloc ?_ ?_ _ | omega | (simp; done) | (simp; omega)))) hb2; replace k0 := cellOf hw2 k0; replace k1 := cellOf hw2 k1; replace k2 := cellOf hw2 k2) | (go_at_call 12; refine (HC.out _ (by (repeat' (first | with_reducible exact Below.refl _ _ | with_reducible assumption | with_reducible refine Below.drew ?_ | with_reducible refine below_drewN ?_ _ | with_reducible refine Below.setCell ?_ ?_ _ | with_reducible refine Below.alloc ?_ ?_ _ | omega | (simp; done) | (simp; omega))))).mono ?_; rintro e w3 ⟨r3, v3, N3, um3, rfl, s3, hk3, rfl, rfl, hu3, hc3⟩; have l3 := k0; clear k0 k1 k2; have R3 := (R1.out.keep (LKeep.ofBelow (X := []) (show Below w1.heap.size w1 _ by (repeat' (first | with_reducible exact Below.refl _ _ | with_reducible assumption | with_reducible refine Below.drew ?_ | with_reducible refine below_drewN ?_ _ | with_reducible refine Below.setCell ?_ ?_ _ | with_reducible refine Below.alloc ?_ ?_ _ | omega | (simp; done) | (simp; omega))))) (by simp)).keep hk3 (by simp); have k0 := R3.l.cell 0; have k1 : w3.cell? ⟨nB, 0, none⟩ = some (.int .i64 z) := (by have hq := R3.n.cell 0; rw [hzz.out] at hq; exact hq); have k2 : w3.cell? ⟨w.heap.size, 0, none⟩ = some (.int .i64 x) := (hk3.box (I1.out.below (show Below w1.heap.size w1 _ by (repeat' (first | with_reducible exact Below.refl _ _ | with_reducible assumption | with_reducible refine Below.drew ?_ | with_reducible refine below_drewN ?_ _ | with_reducible refine Below.setCell ?_ ?_ _ | with_reducible refine Below.alloc ?_ ?_ _ | omega | (simp; done) | (simp; omega))))) (fun hm => hci.out (List.mem_singleton.1 hm))).cell 0))
    all_goals (
      have e1 := s3.env.cell 0 (by decide)
      have S3 := Lib.hid s3
      have K3 := Lib.hid hk3
      have C3 := Lib.hid hc3
      clear s3 hk3 hc3 R3 k0 k1 k2 l3
      go_wp2_with fail
      go_ret
      exact ⟨v3, um3, ret_int (by omega), by rw [HRN.out]; exact S3.out, ((LKeep.ofBelow HB1.out).trans (LKeep.ofBelow (show Below w1.heap.size w1 _ by (repeat' (first | with_reducible exact Below.refl _ _ | with_reducible assumption | with_reducible refine Below.drew ?_ | with_reducible refine below_drewN ?_ _ | with_reducible refine Below.setCell ?_ ?_ _ | with_reducible refine Below.alloc ?_ ?_ _ | omega | (simp; done) | (simp; omega)))))).trans K3.out, C3.out, hu3⟩)

end Go.Proofs.YtodlbfekoohpoaaDoor
