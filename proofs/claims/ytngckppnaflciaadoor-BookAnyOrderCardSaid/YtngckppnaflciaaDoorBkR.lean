/- A book in memory: what it holds; New, Len, Close: walks. -/
import Derived.Test.YtngckppnaflciaaDoorBkQ
import Derived.Maps.OwnSet
import Derived.Maps.Views
import Derived.Maps.OwnOps
import Derived.StringKeys
import Derived.Sort.KeysCollected
namespace Go.Proofs.YtngckppnaflciaaDoor
open Go.RowKit Go.Maps

theorem lawS : Keyed Tryd.prog 9 := string_keyed Tryd.underlying9
/-- a string as a map's key -/
def keyS (s : ByteArray) : Lit := .string s.data.toList
theorem keyS_inj {s t : ByteArray} (h : keyS s = keyS t) : s = t := by
  unfold keyS at h
  injection h with h
  exact ByteArray.ext (Array.ext' h)
theorem strL_lit (x : List UInt8) : WideAt.IsKeyLit (.string x) := by unfold WideAt.IsKeyLit; simp
theorem keyS_of {s : ByteArray} (h : s.size ≤ maxLen) : keyOf Tryd.prog 9 (.string s) = some (keyS s) := WideMaps.keyOf_string_mk Tryd.underlying9 h

/-- an element of the map is read as it stands -/
def RV (v : Value) : Option (DataW Value × List MemPlace) := some (.held v, [])
theorem RV_inv {v : Value} {d : DataW Value} {ps : List MemPlace} (h : RV v = some (d, ps)) : d = .held v := by unfold RV at h; injection h with h; injection h with h1 h2; exact h1.symm
/-- an id's bytes -/
def idb (p : Pv) : List UInt8 := p.id.data.toList
theorem idb_inj {p q : Pv} (h : idb p = idb q) : p.id = q.id := ByteArray.ext (Array.ext' h)
def zeroPv : Pv := ⟨ByteArray.empty, ByteArray.empty, 0, 0, 0, 0, ByteArray.empty, 0, 0, 0, [], ByteArray.empty, 0, 0, 0⟩
theorem zeroP (w : World) : (zeroValue 43).run Tryd.prog w = .ok (pvV zeroPv none 0) w := by kernel_rfl

theorem map_ne_cell {w : World} {M : Nat} {es : Array MapEntry} {k : Nat} {p : Addr} {v : Value} (hm : w.heap[M]? = some (.map es k)) (h : w.cell? p = some v) : p.block ≠ M := fun e => by
  simp [World.cell?, e, hm] at h
theorem cell_only {w w' : World} {M : Nat} {p : Addr} {v : Value} (h : w.cell? p = some v) (ho : OnlyL [M] w w') (hm : ∃ es k, w.heap[M]? = some (.map es k)) : w'.cell? p = some v := by
  obtain ⟨es, k, hm⟩ := hm
  exact (World.cell?_of_block (w := w) (a := p) (ho.block p.block (cell_lt h) (by simpa using map_ne_cell hm h))).trans h
theorem row_only {α : Type} {enc : α → List Value} {size : Nat} {w w' : World} {M : Nat} {A : Option Addr} {l : List α} (h : RowAt enc size w w.heap.size A l) (ho : OnlyL [M] w w') (hm : ∃ es k, w.heap[M]? = some (.map es k)) : RowAt enc size w' w'.heap.size A l := fun k x hx => by
  obtain ⟨b, off, h1, h2, h3⟩ := h k x hx
  exact ⟨b, off, h1, Nat.lt_of_lt_of_le h2 ho.size, fun j u hj => cell_only (h3 j u hj) ho hm⟩
theorem PvAt.only {w w' : World} {M : Nat} {p : Pv} {A : Option Addr} {c : Nat} (h : PvAt w w.heap.size p A c) (ho : OnlyL [M] w w') (hm : ∃ es k, w.heap[M]? = some (.map es k)) : PvAt w' w'.heap.size p A c := ⟨row_only h.row ho hm, h.cap⟩

/-- the datum of a book's map says the provisions S -/
structure ReadS (w : World) (D : DataW Value) (S : List Pv) : Prop where
  isMap : IsMap D
  has : ∀ x, Maps.has D (.string x) = true ↔ ∃ p ∈ S, idb p = x
  at' : ∀ p ∈ S, ∃ A c, (∀ z, D.atKey (.string (idb p)) z = .held (pvV p A c)) ∧ PvAt w w.heap.size p A c
  nodup : (S.map idb).Nodup
  inn : ∀ p ∈ S, PvIn p ∧ p.id.size ≤ maxLen
theorem ReadS.step {w w' : World} {D : DataW Value} {S : List Pv} (h : ReadS w D S) (hb : Below w.heap.size w w') : ReadS w' D S :=
  ⟨h.isMap, h.has, fun p hp => by obtain ⟨A, c, h1, h2⟩ := h.at' p hp; exact ⟨A, c, h1, h2.step hb⟩, h.nodup, h.inn⟩
theorem ReadS.only {w w' : World} {M : Nat} {D : DataW Value} {S : List Pv} (h : ReadS w D S) (ho : OnlyL [M] w w') (hm : ∃ es k, w.heap[M]? = some (.map es k)) : ReadS w' D S :=
  ⟨h.isMap, h.has, fun p hp => by obtain ⟨A, c, h1, h2⟩ := h.at' p hp; exact ⟨A, c, h1, h2.only ho hm⟩, h.nodup, h.inn⟩
theorem ReadS.nil (w : World) : ReadS w (.map []) [] := ⟨isMap_empty, fun x => by rw [has_eq]; simp, fun p hp => by simp at hp, by simp, fun p hp => by simp at hp⟩
theorem ReadS.put {w : World} {D : DataW Value} {S : List Pv} (h : ReadS w D S) {p : Pv} {A : Option Addr} {c : Nat} (hA : PvAt w w.heap.size p A c) (hI : PvIn p ∧ p.id.size ≤ maxLen) (hn : ∀ q ∈ S, idb q ≠ idb p) : ReadS w (D.put (keyS p.id) (.held (pvV p A c))) (S ++ [p]) where
  isMap := h.isMap.put _ _
  has x := by
    by_cases e : x = idb p
    · subst e
      exact ⟨fun _ => ⟨p, by simp, rfl⟩, fun _ => has_put_same h.isMap (strL_lit _) _⟩
    · rw [has_put_other (show (Lit.string x) ≠ keyS p.id from fun q => e (by unfold keyS at q; injection q)), h.has x]
      exact ⟨fun ⟨q, h1, h2⟩ => ⟨q, by simp [h1], h2⟩, fun ⟨q, h1, h2⟩ => by
        rcases List.mem_append.1 h1 with h1 | h1
        · exact ⟨q, h1, h2⟩
        · simp at h1; subst h1; exact absurd h2.symm e⟩
  at' q hq := by
    rcases List.mem_append.1 hq with hq | hq
    · obtain ⟨A', c', h1, h2⟩ := h.at' q hq
      exact ⟨A', c', fun z => (atKey_put_other (show (Lit.string (idb q)) ≠ keyS p.id from fun e => hn q hq (by unfold keyS at e; injection e)) _ z).trans (h1 z), h2⟩
    · simp at hq; subst hq
      exact ⟨A, c, fun z => atKey_put_same h.isMap (strL_lit _) _ z, hA⟩
  nodup := by
    rw [List.map_append, List.nodup_append]
    refine ⟨h.nodup, by simp, fun a ha b hb => ?_⟩
    obtain ⟨q, hq, rfl⟩ := List.mem_map.1 ha
    simp at hb; subst hb
    exact hn q hq
  inn q hq := by
    rcases List.mem_append.1 hq with hq | hq
    · exact h.inn q hq
    · simp at hq; subst hq; exact hI

/-- a book in memory -/
structure BookAt (w : World) (b M : Nat) (cl : Bool) (S : List Pv) : Prop where
  box : w.heap[b]? = some (.cells #[.map (some M), .bool cl] 55 (0, 0))
  own : ∃ D, w.ownsMap Tryd.prog 9 RV M S.length D ∧ ReadS w D S
theorem own_isMap {w : World} {M n : Nat} {k : TypeId} {D : DataW Value} (h : w.ownsMap Tryd.prog k RV M n D) : ∃ es c, w.heap[M]? = some (.map es c) := by
  obtain ⟨es, c, h, _⟩ := h; exact ⟨es, c, h⟩
section
variable {w w' : World} {b M b' M' : Nat} {cl cl' : Bool} {S S' : List Pv}
theorem BookAt.isMap (h : BookAt w b M cl S) : ∃ es c, w.heap[M]? = some (.map es c) := by obtain ⟨D, h, _⟩ := h.own; exact own_isMap h
theorem BookAt.lt (h : BookAt w b M cl S) : b < w.heap.size ∧ M < w.heap.size := by
  obtain ⟨D, h1, _⟩ := h.own
  exact ⟨(Array.getElem?_eq_some_iff.1 h.box).1, h1.lt⟩
theorem BookAt.ne (h : BookAt w b M cl S) : b ≠ M := fun e => by
  obtain ⟨es, c, hm⟩ := h.isMap
  rw [← e, h.box] at hm; cases hm
theorem BookAt.step (h : BookAt w b M cl S) (hb : Below w.heap.size w w') : BookAt w' b M cl S where
  box := (hb.block b h.lt.1).trans h.box
  own := by
    obtain ⟨D, h1, h2⟩ := h.own
    exact ⟨D, h1.kept (row := none) ⟨hb.os, hb.tape, hb.output, hb.size, fun i hi _ => hb.block i hi⟩ (by simp), h2.step hb⟩
/-- another book's map turns -/
theorem BookAt.only (h : BookAt w b M cl S) (k : BookAt w b' M' cl' S') (hne : M ≠ M') (ho : OnlyL [M'] w w') : BookAt w' b M cl S where
  box := (ho.block b h.lt.1 (by
    obtain ⟨es, c, hm⟩ := k.isMap
    simp; rintro rfl; rw [h.box] at hm; cases hm)).trans h.box
  own := by
    obtain ⟨D, h1, h2⟩ := h.own
    exact ⟨D, h1.kept (row := some M') ⟨ho.os, ho.tape, ho.output, ho.size, fun i hi hn => ho.block i hi (by simp; intro e; exact hn (by rw [e]))⟩ (by simp [hne]), h2.only ho k.isMap⟩
set_option maxRecDepth 100000 in
/-- what a lookup finds -/
theorem ReadS.find {D : DataW Value} (h : ReadS w D S) {p : Pv} (hp : p ∈ S) : ∃ A c, PvAt w w.heap.size p A c ∧ ∀ (W : World) (n M : Nat), W.ownsMap Tryd.prog 9 RV M n D → (Instr.lookup 53 (.map (some M)) (.string p.id) true).run Tryd.prog W = .ok (.tuple #[pvV p A c, .bool true]) W ∧ (Instr.lookup 53 (.map (some M)) (.string p.id) false).run Tryd.prog W = .ok (pvV p A c) W := by
  obtain ⟨A, c, h1, h2⟩ := h.at' p hp
  refine ⟨A, c, h2, fun W n M ho => ?_⟩
  have hkey := keyS_of (h.inn p hp).2
  have hh : Maps.has D (keyS p.id) = true := (h.has _).2 ⟨p, hp, rfl⟩
  constructor
  · obtain ⟨v, ps, hr, hv⟩ := ho.look_ok lawS Tryd.underlying53 (zeroP W) (zd := .held (pvV zeroPv none 0)) (zp := []) rfl hkey
    have e := RV_inv hv
    rw [show keyS p.id = .string (idb p) from rfl, h1] at e
    injection e with e
    rw [hr, hh, e]
  · obtain ⟨v, ps, hr, hv⟩ := ho.lookup lawS Tryd.underlying53 (zeroP W) (zd := .held (pvV zeroPv none 0)) (zp := []) rfl hkey
    have e := RV_inv hv
    rw [show keyS p.id = .string (idb p) from rfl, h1] at e
    injection e with e
    rw [hr, e]
set_option maxRecDepth 100000 in
theorem ReadS.miss {D : DataW Value} (h : ReadS w D S) {s : ByteArray} (hs : s.size ≤ maxLen) (hn : ∀ p ∈ S, p.id ≠ s) (W : World) (n M : Nat) (ho : W.ownsMap Tryd.prog 9 RV M n D) : (Instr.lookup 53 (.map (some M)) (.string s) true).run Tryd.prog W = .ok (.tuple #[pvV zeroPv none 0, .bool false]) W := by
  have hkey := keyS_of hs
  have hh : Maps.has D (keyS s) = false := by
    rw [Bool.eq_false_iff]
    intro e
    obtain ⟨p, hp, hq⟩ := (h.has _).1 e
    exact hn p hp (ByteArray.ext (Array.ext' hq))
  obtain ⟨v, ps, hr, hv⟩ := ho.look_ok lawS Tryd.underlying53 (zeroP W) (zd := .held (pvV zeroPv none 0)) (zp := []) rfl hkey
  have e := RV_inv hv
  rw [atKey_of_not_has hh] at e
  injection e with e
  rw [hr, hh, e]
end

theorem keys_perm {w : World} {M n : Nat} {D : DataW Value} {S : List Pv} (ho : w.ownsMap Tryd.prog 9 RV M n D) (h : ReadS w D S) : (S.map idb).Perm (strKeys D) := by
  obtain ⟨es, rfl, hpw, _⟩ := ho.entries lawS
  obtain ⟨es', e, hko⟩ := ho.keysOf
  injection e with e
  subst e
  exact perm_strKeys hpw (fun p hp => by obtain ⟨v, hv⟩ := hko p hp; obtain ⟨x, _, hx, _⟩ := Maps.keyOf_str Tryd.underlying9 hv; exact ⟨x, hx⟩) h.nodup (fun x => List.mem_map.trans (h.has x).symm)
theorem size_is {w : World} {M n : Nat} {D : DataW Value} {S : List Pv} (ho : w.ownsMap Tryd.prog 9 RV M n D) (h : ReadS w D S) : Maps.size D = S.length := by
  have hp := (keys_perm ho h).length_eq
  rw [List.length_map] at hp
  obtain ⟨es, e, _⟩ := ho.entries lawS
  subst e
  rw [hp, size_eq]
  exact (List.length_map ..).symm

/-- 'm[k]' in a plain region, its run known -/
theorem wpList_lookup_is {P : Program} {w : World} {ops : Array Oper} {rest : List Oper} {o : Oper} {a : Act} {Q : Exit → Act → World → Prop} (hg : o.guard = none) (m x : Operand) (t : TypeId) (ok : Bool) (hop : o.op = Op.lookup t m x ok)
    (mv xv v : Value) (hm : a.eval m = mv) (hx : a.eval x = xv) (hrun : (Instr.lookup t mv xv ok).run P w = .ok v w) (hK : wpList P ops Q rest (a.put o.dst v) w) : wpList P ops Q (o :: rest) a w := by
  refine wpList_plain hg fun K' hK' => ?_
  unfold Oper.wp
  simp [execOp, hop, hm, hx, hrun, Result.andThen]
  exact hK' _ _ hK

set_option maxRecDepth 100000 in
set_option maxHeartbeats 4000000 in
theorem new_any (w : World) : Calls Tryd.prog 7 #[] w fun e w' => ∃ b M, e = .returned (.pointer (some ⟨b, 0, none⟩)) ∧ BookAt w' b M false [] ∧ w.heap.size ≤ b ∧ w.heap.size ≤ M ∧ Below w.heap.size w w' := by
  have hmm := @run_makeMap Tryd.prog
  go_enter Tryd.func7, Tryd.ntmps7
  go_wp2_with fail
  go_ret
  exact ⟨w.heap.size + 1, w.heap.size, rfl, ⟨blk_new (by simp), .map [], (World.ownsMap_made w Tryd.prog 9 RV).alloc _, ReadS.nil _⟩, by omega, Nat.le_refl _, by (repeat' (first | with_reducible exact Below.refl _ _ | with_reducible assumption | with_reducible refine Below.drew ?_ | with_reducible refine below_drewN ?_ _ | with_reducible refine Below.setCell ?_ ?_ _ | with_reducible refine Below.alloc ?_ ?_ _ | omega | (simp; done) | (simp; omega)))⟩

set_option maxRecDepth 100000 in
set_option maxHeartbeats 4000000 in
theorem len_any (b M : Nat) (cl : Bool) (S : List Pv) (w : World) (h : BookAt w b M cl S) : Calls Tryd.prog 16 #[.pointer (some ⟨b, 0, none⟩)] w fun e w' => e = .returned (.int .i64 S.length) ∧ Below w.heap.size w w' := by
  obtain ⟨D, hown, hr⟩ := h.own
  have hz := size_is hown hr
  have BX := Lib.hid h.box
  have cB := cellH BX
  clear h hr
  go_enter Tryd.func16, Tryd.ntmps16
  go_wp2_with (at_len; refine wpList_len_own _ rfl _ 53 rfl 9 43 Tryd.underlying53 RV M S.length D rfl hown ?_; rw [hz])
  go_ret
  exact ⟨rfl, by (repeat' (first | with_reducible exact Below.refl _ _ | with_reducible assumption | with_reducible refine Below.drew ?_ | with_reducible refine below_drewN ?_ _ | with_reducible refine Below.setCell ?_ ?_ _ | with_reducible refine Below.alloc ?_ ?_ _ | omega | (simp; done) | (simp; omega)))⟩

theorem BookAt.close {w : World} {b M : Nat} {cl : Bool} {S : List Pv} (h : BookAt w b M cl S) : BookAt (w.setCell ⟨b, 1, none⟩ (.bool true)) b M true S where
  box := by
    have h := h.box
    simp [World.setCell, Array.getElem?_modify, h]
  own := by
    obtain ⟨D, h1, h2⟩ := h.own
    refine ⟨D, h1.setCell (fun e => h.ne e.symm) _, h2.isMap, h2.has, fun p hp => ?_, h2.nodup, h2.inn⟩
    obtain ⟨A, c, e1, e2⟩ := h2.at' p hp
    refine ⟨A, c, e1, fun k x hx => ?_, e2.cap⟩
    obtain ⟨g, off, q1, q2, q3⟩ := e2.row k x hx
    have hgb : g ≠ b := by
      rintro rfl
      have h0 := q3 0 _ rfl
      rw [cellH (Lib.hid h.box)] at h0
      generalize off + k * 4 + 0 = i at h0
      rcases i with _ | _ | i <;> simp at h0
    exact ⟨g, off, q1, by simpa using q2, fun j u hj => cell_set (q3 j u hj) hgb⟩

set_option maxRecDepth 100000 in
set_option maxHeartbeats 4000000 in
theorem close_any (b M : Nat) (cl : Bool) (S : List Pv) (w : World) (h : BookAt w b M cl S) : Calls Tryd.prog 17 #[.pointer (some ⟨b, 0, none⟩)] w fun e w' => e = .returned (.bool !cl) ∧ BookAt w' b M true S ∧ OnlyL [b] w w' := by
  have HB := Lib.hid h
  have BX := Lib.hid h.box
  have cB := cellH BX
  have fB := frozH BX
  obtain ⟨lB, lB1, lB2⟩ := ltH BX
  clear h
  go_enter Tryd.func17, Tryd.ntmps17
  go_wp2_with fail
  go_ret
  exact ⟨rfl, HB.out.close, by (repeat' (first | with_reducible exact OnlyL.refl _ _ | with_reducible assumption | with_reducible refine OnlyL.drew ?_ | with_reducible refine OnlyL.drewN ?_ _ | with_reducible refine OnlyL.setCell ?_ ?_ _ | with_reducible refine OnlyL.alloc ?_ _ | omega | (simp; done) | (simp; omega)))⟩
end Go.Proofs.YtngckppnaflciaaDoor
