/- Calls on a ledger, laid in memory; Notes, once more; grown; a work that answers a value. -/
import Derived.Test.YtodlbfekoohpoaaDoorNameR
import Derived.Test.YtodlbfekoohpoaaDoorBootJ
namespace Go.Proofs.YtodlbfekoohpoaaDoor
open Go.RowKit

/-- a call: its kind, its value, its step, whether of the other ledger -/
abbrev Op4 := Int × Int × ByteArray × Bool
def encO (x : Op4) : List Value := [.int .i64 x.1, .int .i64 x.2.1, .string x.2.2.1, .bool x.2.2.2]
theorem encO_len (x : Op4) : (encO x).length = 4 := rfl

set_option maxRecDepth 10000 in
set_option maxHeartbeats 4000000 in
/-- Notes: the copy lies in new memory -/
theorem notes_far (b L P U um : Nat) (v : Value) (N : List Nt) (B : List ByteArray) (cl : Bool) (w : World) (hl : Led b w L P U v N B cl um) :
    Calls Tryd.prog 9 #[.pointer (some ⟨L, 0, none⟩)] w fun e w' => (∃ A, e = .returned (.slice A N.length N.length) ∧ RowAt encN 2 w' w'.heap.size A N ∧ ∀ a, A = some a → w.heap.size ≤ a.block) ∧ Below w.heap.size w w' := by
  obtain ⟨A, c, hv, _, _, hrow⟩ := Own.rows (fun x _ => encN_len x) hl.own
  have BX := Lib.hid hl.box
  have HN := hl.len
  subst hv
  have cB := cellH BX
  have HR := Lib.hid hrow
  clear hl hrow
  go_enter Tryd.func9, Tryd.ntmps9
  go_wp2_with fail
  refine (cloneN_any N A c _ HR.out (by omega)).mono ?_
  rintro e w1 ⟨⟨v1, rfl, ho⟩, hb1⟩
  obtain ⟨A1, c1, hv1, hc1, hcc, hrow1⟩ := Own.rows (fun x _ => encN_len x) ho
  subst hv1
  have HR1 := Lib.hid hrow1
  have HFAR : Hid (∀ a, A1 = some a → w.heap.size ≤ a.block) := fun a e => by
    rcases ho.2 with ⟨h, _⟩ | ⟨g, cap, cur, h, hg, _⟩
    · injection h with h; rw [e] at h; cases h
    · injection h with h; rw [e] at h; injection h with h; rw [h]; exact hg
  have hn0 : A1 = none → N.length = 0 ∧ c1 = 0 := fun e => by
    rcases ho.2 with ⟨h, _⟩ | ⟨g, cap, cur, h, _⟩
    · injection h with _ h2 h3; exact ⟨h2, h3⟩
    · rw [e] at h; injection h with h; cases h
  clear ho hrow1
  go_wp2_with fail
  refine (clipN_any A1 N.length c1 _ (by omega) (by omega) hn0).mono ?_
  rintro e w2 ⟨rfl, hb2⟩
  go_wp2_with fail
  go_ret
  exact ⟨⟨A1, rfl, (HR1.out.below hb2 (Nat.le_refl _)).more hb2.size, HFAR.out⟩, stepH hb1 hb2⟩

set_option maxRecDepth 10000 in
set_option maxHeartbeats 4000000 in
theorem grown_any (l r : List Nt) (A B : Option Addr) (c d : Nat) (w : World) (hl : RowAt encN 2 w w.heap.size A l) (hm : RowAt encN 2 w w.heap.size B r) (h1 : r.take l.length = l) (hd : r.length ≤ d) (h2 : l.length ≤ 1000000) :
    Calls Tryd.prog 15 #[.slice A l.length c, .slice B r.length d] w fun e w' => e = .returned (.bool true) ∧ Below w.heap.size w w' := by
  have hle : l.length ≤ r.length := by have := congrArg List.length h1; rw [List.length_take] at this; omega
  have HT : Hid (RowAt encN 2 w w.heap.size B l) := by have := hm.take l.length; rw [h1] at this; exact this
  have HL := Lib.hid hl
  have m1 : (l.length : Int) ≤ (r.length : Int) := by omega
  have m2 : l.length ≤ d := by omega
  have m3 : (l.length : Int) ≤ (d : Int) := by omega
  have m4 : (0 : Int) ≤ (l.length : Int) := by omega
  have HC := Lib.hid (fun B' d' (hB : B' = B) W (hW : Below w.heap.size w W) => sameNotes_yes l l.length A B' c d' W rfl ((HL.out.below hW (Nat.le_refl _)).more hW.size) (by rw [hB]; exact (HT.out.below hW (Nat.le_refl _)).more hW.size) h2)
  clear hl hm h1
  go_enter Tryd.func15, Tryd.ntmps15
  go_wp2_with fail
  refine (HC.out _ _ rfl _ (by (repeat' (first | with_reducible exact Below.refl _ _ | with_reducible assumption | with_reducible refine Below.drew ?_ | with_reducible refine below_drewN ?_ _ | with_reducible refine Below.setCell ?_ ?_ _ | with_reducible refine Below.alloc ?_ ?_ _ | omega | (simp; done) | (simp; omega))))).mono ?_
  rintro e w1 ⟨rfl, hb1⟩
  go_wp2_with fail
  go_ret
  exact ⟨rfl, hb1⟩

theorem kept1_any (x : Int) (k : Nat) (w : World) (hk : w.cell? ⟨k, 1, none⟩ = some (.int .i64 x)) : Calls Tryd.prog 13 #[.pointer (some ⟨k, 0, none⟩)] w fun e w' => e = .returned (.int .i64 x) ∧ Below w.heap.size w w' := by
  go_enter Tryd.func13, Tryd.ntmps13
  go_wp2_with fail
  go_ret
  exact ⟨rfl, by (repeat' (first | with_reducible exact Below.refl _ _ | with_reducible assumption | with_reducible refine Below.drew ?_ | with_reducible refine below_drewN ?_ _ | with_reducible refine Below.setCell ?_ ?_ _ | with_reducible refine Below.alloc ?_ ?_ _ | omega | (simp; done) | (simp; omega)))⟩
theorem call_kept : ∀ args w, (callFunc 13 args).run Tryd.prog w = .ok (.enter 13 args) w := fun _ _ => by simp [go_sem]

/-- a new ledger's state -/
theorem st_new {b L P U : Nat} {E : Nat → Addr} {m : Int} {w0 w W : World} (hb : b ≤ w.heap.size) (hb0 : b ≤ w0.heap.size) (hw : Below w0.heap.size w0 W) (hE : Env L5 E w0) (hm : w0.cell? ⟨5, 0, none⟩ = some (.int .i64 m)) (low : (∀ g ∈ L5, g < b ∧ (E g).block < b) ∧ 5 < b) (hl : Led w.heap.size W L P U (.slice none 0 0) [] [] false 0) :
    St b E m L P U W (.slice none 0 0) [] [] false 0 :=
  ⟨⟨by have := hl.hL; omega, by have := hl.hP; omega, by have := hl.hU; omega, hl.ne, hl.box, Own.nil, hl.places, hl.under, hl.len⟩, hE.below hw, cellOf hw hm, by have := hw.size; omega, low⟩
/-- a row in memory that is none of a ledger's blocks -/
def NotOf (L P U : Nat) (v : Value) (A : Option Addr) : Prop := ∀ a, A = some a → a.block ≠ L ∧ a.block ≠ P ∧ a.block ≠ U ∧ v.ownBlock ≠ some a.block
theorem notOf {b L P U um : Nat} {v : Value} {N : List Nt} {B : List ByteArray} {cl : Bool} {w : World} {A : Option Addr} (hl : Led b w L P U v N B cl um) (h : ∀ a, A = some a → w.heap.size ≤ a.block) : NotOf L P U v A := fun a e => by
  have h0 := h a e
  obtain ⟨_, _, _, h2, _⟩ := hl.places
  obtain ⟨_, h3, _⟩ := hl.under
  have l1 := hl.lt
  have l2 := h2.lt
  have l3 := h3.lt
  exact ⟨by omega, by omega, by omega, fun e => by have := (hl.own.lt _ e).2; omega⟩
theorem row_keep {L P U : Nat} {v v' : Value} {w w' : World} {A : Option Addr} {l : List Nt} (h : RowAt encN 2 w w.heap.size A l) (hf : NotOf L P U v A) (hk : LKeep [] L P U v w v' w') : RowAt encN 2 w' w'.heap.size A l := by
  intro k x hx
  obtain ⟨b, off, h1, h2, h3⟩ := h k x hx
  have hf := hf _ h1
  refine ⟨b, off, h1, Nat.lt_of_lt_of_le h2 hk.size, fun j u hj => ?_⟩
  rw [← h3 j u hj]
  exact World.cell?_of_block (a := ⟨b, _, none⟩) (hk.block b h2 hf.1 hf.2.1 hf.2.2.1 hf.2.2.2 (by simp))
end Go.Proofs.YtodlbfekoohpoaaDoor
