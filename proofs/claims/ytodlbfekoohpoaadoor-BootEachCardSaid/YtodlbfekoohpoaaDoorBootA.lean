/- Ledgers in memory; what is read of them: room, Value: walks. -/
import Derived.Test.YtodlbfekoohpoaaDoorKit
import Derived.Maps.OwnSet
import Derived.Maps.Views
import Derived.Maps.OwnOps
import Derived.StringKeys
namespace Go.Proofs.YtodlbfekoohpoaaDoor
open Go.RowKit Go.Maps

theorem lawS : Keyed Tryd.prog 9 := string_keyed Tryd.underlying9
theorem zeroI (w : World) : (zeroValue 3).run Tryd.prog w = .ok (.int .i64 0) w := by kernel_rfl
theorem infoNt : (Tryd.prog.info? 39).map (fun i => (i.zero, i.size, i.bytes)) = some (some (.agg #[.string ByteArray.empty, .int .i64 0]), 2, 24) := by kernel_rfl

/-- a string as a map's key -/
def keyS (s : ByteArray) : Lit := .string s.data.toList
theorem keyS_inj {s t : ByteArray} (h : keyS s = keyS t) : s = t := by
  unfold keyS at h
  injection h with h
  exact ByteArray.ext (Array.ext' h)
theorem keyS_lit (s : ByteArray) : WideAt.IsKeyLit (keyS s) := by unfold keyS WideAt.IsKeyLit; simp
theorem keyS_of {s : ByteArray} (h : s.size ≤ maxLen) : keyOf Tryd.prog 9 (.string s) = some (keyS s) := WideMaps.keyOf_string_mk Tryd.underlying9 h

/-- a note: its step, its value -/
abbrev Nt := ByteArray × Int
def encN (x : Nt) : List Value := [.string x.1, .int .i64 x.2]
theorem encN_len (x : Nt) : (encN x).length = 2 := rfl
/-- the place of a step's note -/
def idxN : List Nt → ByteArray → Option Nat
  | [], _ => none
  | x :: r, s => if x.1 = s then some 0 else (idxN r s).map (· + 1)
theorem idxN_lt {N : List Nt} {s : ByteArray} {i : Nat} (h : idxN N s = some i) : ∃ x, N[i]? = some x ∧ x.1 = s := by
  induction N generalizing i with
  | nil => cases h
  | cons x r ih =>
    unfold idxN at h
    split at h
    · cases h; exact ⟨x, rfl, ‹_›⟩
    · obtain ⟨j, hj, rfl⟩ := Option.map_eq_some_iff.1 h
      simpa using ih hj
theorem idxN_snoc {N : List Nt} {s : ByteArray} {v : Int} (h : idxN N s = none) (t : ByteArray) : idxN (N ++ [(s, v)]) t = if t = s then some N.length else idxN N t := by
  induction N with
  | nil =>
    show (if s = t then some 0 else (idxN [] t).map (· + 1)) = _
    by_cases e : s = t
    · rw [if_pos e, if_pos e.symm]; rfl
    · rw [if_neg e, if_neg (fun h => e h.symm)]; rfl
  | cons x r ih =>
    unfold idxN at h
    split at h
    · cases h
    · rename_i hx
      have hr : idxN r s = none := by cases e : idxN r s with | none => rfl | some i => rw [e] at h; cases h
      show (if x.1 = t then some 0 else (idxN (r ++ [(s, v)]) t).map (· + 1)) = _
      rw [ih hr]
      by_cases e : x.1 = t
      · rw [if_pos e, if_neg (fun h => hx (e.trans h))]; unfold idxN; rw [if_pos e]
      · rw [if_neg e]
        by_cases e2 : t = s
        · rw [if_pos e2, if_pos e2]; rfl
        · rw [if_neg e2, if_neg e2]; conv => rhs; unfold idxN; rw [if_neg e]

/-- is a step under way? -/
def inB (B : List ByteArray) (s : ByteArray) : Bool := B.any (fun t => decide (t = s))

/-- a ledger in memory, all of it from block b on: its notes N, what is under way B, whether it is closed -/
structure Led (b : Nat) (w : World) (L P U : Nat) (v : Value) (N : List Nt) (B : List ByteArray) (cl : Bool) (um : Nat) : Prop where
  hL : b ≤ L
  hP : b ≤ P
  hU : b ≤ U
  ne : P ≠ U
  box : w.heap[L]? = some (.cells #[v, .map (some P), .map (some U), .bool cl] 73 (0, 0))
  own : Own encN 2 39 b w v N
  places : ∃ n D, n ≤ N.length ∧ w.ownsMap Tryd.prog 9 (plainElem (H := Unit) Tryd.prog 3) P n D ∧ ∀ s, s.size ≤ maxLen → Maps.has D (keyS s) = (idxN N s).isSome ∧ ∀ i : Nat, idxN N s = some i → D.atKey (keyS s) (.lit (.int .i64 0)) = .lit (.int .i64 i)
  under : ∃ D, w.ownsMap Tryd.prog 9 (plainElem (H := Unit) Tryd.prog 3) U um D ∧ ∀ s, s.size ≤ maxLen → D.atKey (keyS s) (.lit (.int .i64 0)) = .lit (.int .i64 (if inB B s then 1 else 0))
  len : N.length ≤ 200

/-- what a call on a ledger leaves as it was: all blocks but its own, and those of X -/
structure LKeep (X : List Nat) (L P U : Nat) (v : Value) (w : World) (v' : Value) (w' : World) : Prop where
  os : w'.os = w.os
  tape : w'.tape = w.tape
  output : w'.output = w.output
  size : w.heap.size ≤ w'.heap.size
  block : ∀ k, k < w.heap.size → k ≠ L → k ≠ P → k ≠ U → v.ownBlock ≠ some k → k ∉ X → w'.heap[k]? = w.heap[k]?
  row : ∀ k, v'.ownBlock = some k → v.ownBlock = some k ∨ w.heap.size ≤ k
theorem LKeep.refl (X : List Nat) (L P U : Nat) (v : Value) (w : World) : LKeep X L P U v w v w := ⟨rfl, rfl, rfl, Nat.le_refl _, fun _ _ _ _ _ _ _ => rfl, fun _ h => .inl h⟩
theorem LKeep.trans {X : List Nat} {L P U : Nat} {v v1 v2 : Value} {w w1 w2 : World} (h : LKeep X L P U v w v1 w1) (k : LKeep X L P U v1 w1 v2 w2) : LKeep X L P U v w v2 w2 where
  os := k.os.trans h.os
  tape := k.tape.trans h.tape
  output := k.output.trans h.output
  size := Nat.le_trans h.size k.size
  block i hi h1 h2 h3 h4 h5 := (k.block i (Nat.lt_of_lt_of_le hi h.size) h1 h2 h3 (fun e => by rcases h.row i e with e | e; exact h4 e; omega) h5).trans (h.block i hi h1 h2 h3 h4 h5)
  row i e := by
    rcases k.row i e with e | e
    · exact h.row i e
    · exact .inr (Nat.le_trans h.size e)
theorem LKeep.ofBelow {X : List Nat} {L P U : Nat} {v : Value} {w w' : World} (h : Below w.heap.size w w') : LKeep X L P U v w v w' := ⟨h.os, h.tape, h.output, h.size, fun k hk _ _ _ _ _ => h.block k hk, fun _ e => .inl e⟩
theorem LKeep.below {X : List Nat} {b L P U : Nat} {v v' : Value} {w w' : World} (h : LKeep X L P U v w v' w') (hL : b ≤ L) (hP : b ≤ P) (hU : b ≤ U) (hv : ∀ k, v.ownBlock = some k → b ≤ k) (hX : ∀ k ∈ X, b ≤ k) (hb : b ≤ w.heap.size) : Below b w w' :=
  ⟨h.os, h.tape, h.output, h.size, fun k hk => h.block k (by omega) (by omega) (by omega) (by omega) (fun e => by have := hv k e; omega) (fun e => by have := hX k e; omega)⟩
theorem LKeep.wider {X Y : List Nat} {L P U : Nat} {v v' : Value} {w w' : World} (h : LKeep X L P U v w v' w') (hs : ∀ k ∈ X, k ∈ Y) : LKeep Y L P U v w v' w' := ⟨h.os, h.tape, h.output, h.size, fun k hk h1 h2 h3 h4 h5 => h.block k hk h1 h2 h3 h4 (fun e => h5 (hs k e)), h.row⟩

section
variable {b L P U um : Nat} {w w' : World} {v : Value} {N : List Nt} {B : List ByteArray} {cl : Bool}
theorem Led.below (h : Led b w L P U v N B cl um) (hb : Below w.heap.size w w') : Led b w' L P U v N B cl um where
  hL := h.hL
  hP := h.hP
  hU := h.hU
  ne := h.ne
  box := (hb.block L (Array.getElem?_eq_some_iff.1 h.box).1).trans h.box
  own := h.own.below hb
  places := by
    obtain ⟨n, D, h1, h2, h3⟩ := h.places
    exact ⟨n, D, h1, h2.kept (row := none) ⟨hb.os, hb.tape, hb.output, hb.size, fun i hi _ => hb.block i hi⟩ (by simp), h3⟩
  under := by
    obtain ⟨D, h2, h3⟩ := h.under
    exact ⟨D, h2.kept (row := none) ⟨hb.os, hb.tape, hb.output, hb.size, fun i hi _ => hb.block i hi⟩ (by simp), h3⟩
  len := h.len
theorem Led.lt (h : Led b w L P U v N B cl um) : L < w.heap.size := (Array.getElem?_eq_some_iff.1 h.box).1
end

/-- the sentinels of the ledgers -/
def L5 : List Nat := [0, 1, 2, 3, 4]
/-- an error, or none -/
def errV5 (E : Nat → Addr) : Option Nat → Value
  | none => .nilIface
  | some g => .iface 98 (.pointer (some (E g)))
/-- what is wrong with room for one note more -/
def roomE (cl : Bool) (n : Nat) : Option Nat := if cl then some 3 else if 200 ≤ n then some 4 else none

set_option maxRecDepth 10000 in
set_option maxHeartbeats 4000000 in
theorem room_any (b L P U um : Nat) (v : Value) (N : List Nt) (B : List ByteArray) (cl : Bool) (E : Nat → Addr) (w : World) (hl : Led b w L P U v N B cl um) (hE : Env L5 E w) :
    Calls Tryd.prog 39 #[.pointer (some ⟨L, 0, none⟩)] w fun e w' => e = .returned (errV5 E (roomE cl N.length)) ∧ Below w.heap.size w w' := by
  have HE := Lib.hid hE
  obtain ⟨A, c, hv, _, _, _⟩ := Own.rows (fun x _ => encN_len x) hl.own
  have BX := Lib.hid hl.box
  subst hv
  have cB := cellH BX
  clear hl hE
  cases cl with
  | true =>
    have e0 := HE.out.cell 3 (by decide)
    go_enter Tryd.func39, Tryd.ntmps39
    go_wp2_with fail
    go_ret
    exact ⟨rfl, by (repeat' (first | with_reducible exact Below.refl _ _ | with_reducible assumption | with_reducible refine Below.drew ?_ | with_reducible refine below_drewN ?_ _ | with_reducible refine Below.setCell ?_ ?_ _ | with_reducible refine Below.alloc ?_ ?_ _ | omega | (simp; done) | (simp; omega)))⟩
  | false =>
    by_cases h : 200 ≤ N.length
    · have e0 := HE.out.cell 4 (by decide)
      have e1 : decide ((200 : Int) ≤ (N.length : Int)) = true := decide_eq_true (by omega)
      have HR : Hid (roomE false N.length = some 4) := by show _ = _; unfold roomE; rw [if_neg (by decide), if_pos h]
      clear h
      go_enter Tryd.func39, Tryd.ntmps39
      go_wp2_with fail
      go_ret
      exact ⟨by rw [HR.out]; rfl, by (repeat' (first | with_reducible exact Below.refl _ _ | with_reducible assumption | with_reducible refine Below.drew ?_ | with_reducible refine below_drewN ?_ _ | with_reducible refine Below.setCell ?_ ?_ _ | with_reducible refine Below.alloc ?_ ?_ _ | omega | (simp; done) | (simp; omega)))⟩
    · have e1 : decide ((200 : Int) ≤ (N.length : Int)) = false := decide_eq_false (by omega)
      have HR : Hid (roomE false N.length = none) := by show _ = _; unfold roomE; rw [if_neg (by decide), if_neg h]
      clear h
      go_enter Tryd.func39, Tryd.ntmps39
      go_wp2_with fail
      go_ret
      exact ⟨by rw [HR.out]; rfl, by (repeat' (first | with_reducible exact Below.refl _ _ | with_reducible assumption | with_reducible refine Below.drew ?_ | with_reducible refine below_drewN ?_ _ | with_reducible refine Below.setCell ?_ ?_ _ | with_reducible refine Below.alloc ?_ ?_ _ | omega | (simp; done) | (simp; omega)))⟩

set_option maxRecDepth 10000 in
set_option maxHeartbeats 4000000 in
theorem value_any (b L P U um : Nat) (v : Value) (N : List Nt) (B : List ByteArray) (cl : Bool) (s : ByteArray) (w : World) (hl : Led b w L P U v N B cl um) (hs : s.size ≤ maxLen) :
    Calls Tryd.prog 37 #[.pointer (some ⟨L, 0, none⟩), .string s] w fun e w' => e = .returned (match idxN N s with | some i => .tuple #[.int .i64 ((N[i]?.map (·.2)).getD 0), .bool true] | none => .tuple #[.int .i64 0, .bool false]) ∧ Below w.heap.size w w' := by
  obtain ⟨A, c, hv, _, _, hrow⟩ := Own.rows (fun x _ => encN_len x) hl.own
  have BX := Lib.hid hl.box
  subst hv
  have cB := cellH BX
  obtain ⟨n, D, _, hown, hat⟩ := hl.places
  obtain ⟨h1, h2⟩ := hat s hs
  have HR := Lib.hid hrow
  have hkey := keyS_of hs
  have H1 := Lib.hid h1
  have H2 := Lib.hid h2
  clear hl hrow hat h1 h2
  cases hi : idxN N s with
  | none =>
    have HN : Hid (Maps.has D (keyS s) = false) := by show _ = _; rw [H1.out, hi]; rfl
    clear hi
    go_enter Tryd.func37, Tryd.ntmps37
    go_wp2_with (first | (at_lookup; refine wpList_lookup_own_ok_int _ rfl _ _ 71 rfl 9 3 .i64 lawS Tryd.underlying71 Tryd.underlying3 (zeroI _) P n D rfl hown _ _ rfl hkey ?_; intro c9 hat9 hwc9; rw [HN.out]))
    go_ret2
    exact ⟨rfl, by (repeat' (first | with_reducible exact Below.refl _ _ | with_reducible assumption | with_reducible refine Below.drew ?_ | with_reducible refine below_drewN ?_ _ | with_reducible refine Below.setCell ?_ ?_ _ | with_reducible refine Below.alloc ?_ ?_ _ | omega | (simp; done) | (simp; omega)))⟩
  | some i =>
    have HN : Hid (Maps.has D (keyS s) = true) := by show _ = _; rw [H1.out, hi]; rfl
    obtain ⟨x, hx, rfl⟩ := idxN_lt hi
    obtain ⟨g, off, rfl, hg, hc⟩ := HR.out i x hx
    have k1 : w.cell? ⟨g, off + i * 2 + 1, none⟩ = some (.int .i64 x.2) := hc 1 _ rfl
    have hlt : i < N.length := (List.getElem?_eq_some_iff.1 hx).1
    have i1 : (i : Int) < (N.length : Int) := by omega
    have HAT := Lib.hid (H2.out i hi)
    have HX : Hid ((N[i]?.map (·.2)).getD 0 = x.2) := by show _ = _; rw [hx]; rfl
    clear hi hx hc
    go_enter Tryd.func37, Tryd.ntmps37
    go_wp2_with (first | (at_lookup; refine wpList_lookup_own_ok_int _ rfl _ _ 71 rfl 9 3 .i64 lawS Tryd.underlying71 Tryd.underlying3 (zeroI _) P n D rfl hown _ _ rfl hkey ?_; intro c9 hat9 hwc9; (rw [HN.out]; obtain rfl : (i : Int) = c9 := by (have h9 := HAT.out.symm.trans hat9; injection h9 with h9; injection h9)); clear hat9 hwc9))
    go_ret2
    exact ⟨by rw [HX.out]; rfl, by (repeat' (first | with_reducible exact Below.refl _ _ | with_reducible assumption | with_reducible refine Below.drew ?_ | with_reducible refine below_drewN ?_ _ | with_reducible refine Below.setCell ?_ ?_ _ | with_reducible refine Below.alloc ?_ ?_ _ | omega | (simp; done) | (simp; omega)))⟩

end Go.Proofs.YtodlbfekoohpoaaDoor
