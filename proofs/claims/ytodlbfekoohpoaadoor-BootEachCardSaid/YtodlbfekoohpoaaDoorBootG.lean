/- The law's first: what each contract says, a ledger's state carried on; the walk. -/
import Derived.Test.YtodlbfekoohpoaaDoorBootC
import Derived.Test.YtodlbfekoohpoaaDoorBootD
import Derived.Test.YtodlbfekoohpoaaDoorBootF
namespace Go.Proofs.YtodlbfekoohpoaaDoor
open Go.RowKit

/-- a block that no ledger's call turns -/
structure Far (L P U : Nat) (v : Value) (w : World) (k : Nat) : Prop where
  lt : k < w.heap.size
  nL : k ≠ L
  nP : k ≠ P
  nU : k ≠ U
  nv : v.ownBlock ≠ some k
def Box (L P U : Nat) (v : Value) (w : World) (k : Nat) (o : Obj) : Prop := Far L P U v w k ∧ w.heap[k]? = some o
theorem LKeep.box {X : List Nat} {L P U k : Nat} {v v' : Value} {w w' : World} {o : Obj} (h : LKeep X L P U v w v' w') (ha : Box L P U v w k o) (hX : k ∉ X) : Box L P U v' w' k o :=
  ⟨⟨by have := h.size; have := ha.1.lt; omega, ha.1.nL, ha.1.nP, ha.1.nU, fun e => by rcases h.row k e with e | e; exact ha.1.nv e; have := ha.1.lt; omega⟩, (h.block k ha.1.lt ha.1.nL ha.1.nP ha.1.nU ha.1.nv hX).trans ha.2⟩
theorem Box.below {L P U k : Nat} {v : Value} {w w' : World} {o : Obj} (ha : Box L P U v w k o) (hb : Below w.heap.size w w') : Box L P U v w' k o := (LKeep.ofBelow (X := []) hb).box ha (by simp)
theorem Box.cell {L P U k : Nat} {v : Value} {w : World} {cs : Array Value} {t : TypeId} (ha : Box L P U v w k (.cells cs t (0, 0))) (o : Nat) : w.cell? ⟨k, o, none⟩ = cs[o]? := cellH ha.2 o

/-- a ledger, the sentinels, and what Name reads -/
structure St (b : Nat) (E : Nat → Addr) (m : Int) (L P U : Nat) (w : World) (v : Value) (N : List Nt) (B : List ByteArray) (cl : Bool) (um : Nat) : Prop where
  led : Led b w L P U v N B cl um
  env : Env L5 E w
  max : w.cell? ⟨5, 0, none⟩ = some (.int .i64 m)
  hb : b ≤ w.heap.size
  low : (∀ g ∈ L5, g < b ∧ (E g).block < b) ∧ 5 < b

section
variable {b L P U um um' : Nat} {E : Nat → Addr} {m : Int} {w w' : World} {v v' : Value} {N N' : List Nt} {B B' : List ByteArray} {cl cl' : Bool} {X : List Nat}
theorem St.keepB (h : St b E m L P U w v N B cl um) (hk : LKeep X L P U v w v' w') (hX : ∀ k ∈ X, b ≤ k) : Below b w w' := hk.below h.led.hL h.led.hP h.led.hU (fun k e => (h.led.own.lt k e).1) hX h.hb
theorem St.keep (h : St b E m L P U w v N B cl um) (hl : Led b w' L P U v' N' B' cl' um') (hk : LKeep X L P U v w v' w') (hX : ∀ k ∈ X, b ≤ k) : St b E m L P U w' v' N' B' cl' um' := by
  have hb := h.keepB hk hX
  exact ⟨hl, env_keep h.env hb h.low.1, (hb.cell h.low.2).trans h.max, Nat.le_trans h.hb hb.size, h.low⟩
theorem St.below (h : St b E m L P U w v N B cl um) (hb : Below w.heap.size w w') : St b E m L P U w' v N B cl um := h.keep (h.led.below hb) (LKeep.ofBelow (X := []) hb) (by simp)
theorem St.name (h : St b E m L P U w v N B cl um) (s : ByteArray) : NameAt w s (nameB s) := fun W hW => name_any s m W (cellOf hW h.max)
theorem St.noteOk (h : St b E m L P U w v N B cl um) (s : ByteArray) (x : Int) (hs : s.size ≤ maxLen) (hm : mayE (nameB s) N B cl s 1 = none) :
    Calls Tryd.prog 11 #[.pointer (some ⟨L, 0, none⟩), .string s, .int .i64 x] w fun e w' => e = .returned .nilIface ∧ ∃ v', St b E m L P U w' v' (N ++ [(s, x)]) B cl um ∧ LKeep [] L P U v w v' w' :=
  (note_ok b L P U um v N B cl s x (nameB s) E w h.led hs h.env h.hb (h.name s) hm).mono (fun e w' q => by
    obtain ⟨he, v', hl, hk⟩ := q
    exact ⟨he, v', h.keep hl hk (by simp), hk⟩)
theorem St.noteNo (h : St b E m L P U w v N B cl um) (s : ByteArray) (x : Int) (g : Nat) (hs : s.size ≤ maxLen) (hm : mayE (nameB s) N B cl s 1 = some g) :
    Calls Tryd.prog 11 #[.pointer (some ⟨L, 0, none⟩), .string s, .int .i64 x] w fun e w' => e = .returned (.iface 98 (.pointer (some (E g)))) ∧ St b E m L P U w' v N B cl um ∧ Below w.heap.size w w' :=
  (note_no b L P U um v N B cl s x (nameB s) g E w h.led hs h.env (h.name s) hm).mono (fun e w' q => ⟨q.1, h.below q.2, q.2⟩)
theorem St.onceNo (h : St b E m L P U w v N B cl um) (s : ByteArray) (f : Value) (g : Nat) (hs : s.size ≤ maxLen) (hi : idxN N s = none) (hm : mayE (nameB s) N B cl s 0 = some g) :
    Calls Tryd.prog 12 #[.pointer (some ⟨L, 0, none⟩), .string s, f] w fun e w' => e = .returned (.tuple #[.int .i64 0, .iface 98 (.pointer (some (E g)))]) ∧ St b E m L P U w' v N B cl um ∧ Below w.heap.size w w' :=
  (once_no b L P U um f v N B cl s (nameB s) g E w h.led hs h.env hi (h.name s) hm).mono (fun e w' q => ⟨q.1, h.below q.2, q.2⟩)
theorem St.onceOk (h : St b E m L P U w v N B cl um) (s : ByteArray) (gf : Nat) (cb : Array Value) (R : Int → Value → List Nt → Bool → Nat → World → Prop) (hs : s.size ≤ maxLen) (hum : um < 100000) (hm : mayE (nameB s) N B cl s 0 = none)
    (eg : ∀ args w, (callFunc gf args).run Tryd.prog w = .ok (.enter gf args) w)
    (hw : ∀ W, St b E m L P U W v N (s :: B) cl (um + 1) → LKeep [] L P U v w v W → Calls Tryd.prog gf cb W fun e W' => ∃ r v2 N2 cl2 um2, e = .returned (.int .i64 r) ∧ St b E m L P U W' v2 N2 (s :: B) cl2 um2 ∧ LKeep X L P U v W v2 W' ∧ (R r v2 N2 cl2 um2 W' ∧ cl2 = false ∧ idxN N2 s = none ∧ N2.length < 200))
    (hX : ∀ k ∈ X, b ≤ k ∧ k < w.heap.size)
    (hR : ∀ r v2 v3 N2 cl2 um2 W W', R r v2 N2 cl2 um2 W → LKeep [] L P U v2 W v3 W' → R r v3 N2 cl2 um2 W') :
    Calls Tryd.prog 12 #[.pointer (some ⟨L, 0, none⟩), .string s, .func (.func gf) #[] cb] w fun e w' => ∃ r v3 N2 um2, e = .returned (.tuple #[.int .i64 r, .nilIface]) ∧ St b E m L P U w' v3 (N2 ++ [(s, r)]) B false um2 ∧ LKeep X L P U v w v3 w' ∧ R r v3 N2 false um2 w' :=
  (once_ok b L P U um gf cb X v N B cl s (nameB s) R E w h.led hs hum h.hb h.env h.low.1 (h.name s) hm eg (fun W hl hk => (hw W (h.keep hl hk (by simp)) hk).mono (fun e w' q => by
    obtain ⟨r, v2, N2, cl2, um2, he, hq, hk2, hr⟩ := q
    exact ⟨r, v2, N2, cl2, um2, he, hq.led, hk2, hr⟩)) hX hR).mono (fun e w' q => by
    obtain ⟨r, v3, N2, um2, he, hl, hk, hr⟩ := q
    exact ⟨r, v3, N2, um2, he, h.keep hl hk (fun k e => (hX k e).1), hk, hr⟩)
end

def sY1 : ByteArray := ⟨#[121, 49, 46, 99, 112, 105]⟩
def sY : ByteArray := ⟨#[89]⟩
def sB : ByteArray := ⟨#[98]⟩
def sC : ByteArray := ⟨#[99]⟩
def sD : ByteArray := ⟨#[100]⟩
theorem y1_1 : mayE (nameB sY1) [] [] false sY1 1 = none := by kernel_rfl
theorem y1_2 : mayE (nameB sY1) [(sY1, 1000)] [] false sY1 1 = some 1 := by kernel_rfl
theorem y_1 : mayE (nameB sY) [(sY1, 1000)] [] false sY 1 = some 2 := by kernel_rfl
theorem b_1 : mayE (nameB sB) [(sY1, 1000)] [] false sB 0 = none := by kernel_rfl
theorem c_1 : mayE (nameB sC) [(sY1, 1000)] [sB] false sC 0 = none := by kernel_rfl
theorem d_1 : mayE (nameB sD) [(sY1, 1000), (sC, 7), (sB, 8)] [] false sD 0 = none := by kernel_rfl
theorem d_2 : mayE (nameB sD) [(sY1, 1000), (sC, 7), (sB, 8)] [sD] false sD 0 = some 0 := by kernel_rfl

theorem c0_any (w : World) : Calls Tryd.prog 29 #[] w fun e w' => e = .returned (.int .i64 7) ∧ Below w.heap.size w w' := by
  go_enter Tryd.func29, Tryd.ntmps29
  go_wp2_with fail
  go_ret
  exact ⟨rfl, by (repeat' (first | with_reducible exact Below.refl _ _ | with_reducible assumption | with_reducible refine Below.drew ?_ | with_reducible refine below_drewN ?_ _ | with_reducible refine Below.setCell ?_ ?_ _ | with_reducible refine Below.alloc ?_ ?_ _ | omega | (simp; done) | (simp; omega)))⟩

theorem call_c0 : ∀ args w, (callFunc 29 args).run Tryd.prog w = .ok (.enter 29 args) w := fun _ _ => by simp [go_sem]
theorem call_c1 : ∀ args w, (callFunc 28 args).run Tryd.prog w = .ok (.enter 28 args) w := fun _ _ => by simp [go_sem]
theorem call_c2 : ∀ args w, (callFunc 30 args).run Tryd.prog w = .ok (.enter 30 args) w := fun _ _ => by simp [go_sem]

set_option maxRecDepth 10000 in
set_option maxHeartbeats 4000000 in
theorem c1_any (b L P U um lb : Nat) (E : Nat → Addr) (m : Int) (v : Value) (w : World) (h : St b E m L P U w v [(sY1, 1000)] [sB] false um) (hum : um < 1000) (hx : Box L P U v w lb (.cells #[.pointer (some ⟨L, 0, none⟩)] 24 (0, 0))) :
    Calls Tryd.prog 28 #[.pointer (some ⟨lb, 0, none⟩)] w fun e w' => e = .returned (.int .i64 8) ∧ ∃ v' um', um' ≤ um + 1 ∧ St b E m L P U w' v' [(sY1, 1000), (sC, 7)] [sB] false um' ∧ LKeep [] L P U v w v' w' := by
  have k0 : w.cell? ⟨lb, 0, none⟩ = some (.pointer (some ⟨L, 0, none⟩)) := hx.cell 0
  have H := Lib.hid h
  clear h hx
  have HC := Lib.hid (H.out.onceOk (X := []) sC 29 #[] (fun r v2 N2 cl2 um2 W => r = 7 ∧ N2 = [(sY1, 1000)] ∧ um2 = um + 1) (by decide) (by omega) c_1 call_c0
    (fun W hS hk => (c0_any W).mono (fun e W' q => ⟨7, v, _, false, um + 1, q.1, hS.below q.2, LKeep.ofBelow q.2, ⟨rfl, rfl, rfl⟩, rfl, by kernel_rfl, by decide⟩))
    (by simp) (fun r v2 v3 N2 cl2 um2 W W' h _ => h))
  go_enter Tryd.func28, Tryd.ntmps28
  go_wp2_with fail
  refine HC.out.mono ?_
  rintro e w1 ⟨r, v3, N2, um2, rfl, h1, hk1, rfl, rfl, rfl⟩
  have H1 := Lib.hid h1
  have HK1 := Lib.hid hk1
  clear h1 hk1
  go_wp2_with fail
  go_ret
  exact ⟨rfl, v3, um + 1, Nat.le_refl _, H1.out, HK1.out⟩

set_option maxRecDepth 10000 in
set_option maxHeartbeats 4000000 in
theorem c2_any (b L P U um lb : Nat) (E : Nat → Addr) (m : Int) (v : Value) (w : World) (h : St b E m L P U w v [(sY1, 1000), (sC, 7), (sB, 8)] [sD] false um) (hx : Box L P U v w lb (.cells #[.pointer (some ⟨L, 0, none⟩)] 24 (0, 0))) :
    Calls Tryd.prog 30 #[.pointer (some ⟨lb, 0, none⟩)] w fun e w' => e = .returned (.int .i64 3) ∧ Below w.heap.size w w' := by
  have k0 : w.cell? ⟨lb, 0, none⟩ = some (.pointer (some ⟨L, 0, none⟩)) := hx.cell 0
  have H := Lib.hid h
  clear h hx
  have HC := Lib.hid (fun f => H.out.onceNo sD f 0 (by decide) (by kernel_rfl) d_2)
  have hen := fun w => eql_err (E 0) w
  go_enter Tryd.func30, Tryd.ntmps30
  go_wp2_with fail
  refine (HC.out _).mono ?_
  rintro e w1 ⟨rfl, h1, hb1⟩
  have e1 := h1.env.cell 0 (by decide)
  clear h1
  go_wp2_with fail
  go_ret
  exact ⟨rfl, hb1⟩

end Go.Proofs.YtodlbfekoohpoaaDoor
