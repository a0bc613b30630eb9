/- An amendment in memory: None, Len, few, Make: walks. -/
import Derived.Test.YtmoeoomlggjaaaaGreatDoorAmC
import Derived.Deep.RegionHeldLaw
import Derived.Deep.DeepCutAuto
namespace Go.Proofs.YtmoeoomlggjaaaaGreatDoor
open Go.RowKit Go.Maps

theorem heap_turn {w w' : World} {M g : Nat} {cs : Array Value} {t : TypeId} {z : Nat × Nat} (h : w.heap[g]? = some (.cells cs t z)) (hg : w.grownBy w' (some M)) (hm : ∃ es k, w.heap[M]? = some (.map es k)) : w'.heap[g]? = some (.cells cs t z) := by
  obtain ⟨es, k, hm⟩ := hm
  exact (hg.block g (Array.getElem?_eq_some_iff.1 h).1 (fun e => by injection e with e; subst e; rw [h] at hm; cases hm)).trans h
theorem heap_only {w w' : World} {M g : Nat} {cs : Array Value} {t : TypeId} {z : Nat × Nat} (h : w.heap[g]? = some (.cells cs t z)) (ho : OnlyL [M] w w') (hm : ∃ es k, w.heap[M]? = some (.map es k)) : w'.heap[g]? = some (.cells cs t z) := by
  obtain ⟨es, k, hm⟩ := hm
  exact (ho.block g (Array.getElem?_eq_some_iff.1 h).1 (by simp; rintro rfl; rw [h] at hm; cases hm)).trans h
theorem only_turn {w w' : World} {M : Nat} (hg : w.grownBy w' (some M)) : OnlyL [M] w w' := ⟨hg.os, hg.tape, hg.output, hg.size, fun k hk hn => hg.block k hk (fun e => by injection e with e; subst e; simp at hn)⟩
theorem only_step {L : List Nat} {w w' : World} (hb : Below w.heap.size w w') : OnlyL L w w' := ⟨hb.os, hb.tape, hb.output, hb.size, fun k hk _ => hb.block k hk⟩
theorem own_step {w w' : World} {M n : Nat} {k : TypeId} {D : DataW Value} (h : w.ownsMap Tryz.prog k RV M n D) (hb : Below w.heap.size w w') : w'.ownsMap Tryz.prog k RV M n D := h.kept (row := none) ⟨hb.os, hb.tape, hb.output, hb.size, fun i hi _ => hb.block i hi⟩ (by simp)
theorem own_only {w w' : World} {M M' n : Nat} {k : TypeId} {D : DataW Value} (h : w.ownsMap Tryz.prog k RV M n D) (ho : OnlyL [M'] w w') (hne : M ≠ M') : w'.ownsMap Tryz.prog k RV M n D := h.kept (row := some M') ⟨ho.os, ho.tape, ho.output, ho.size, fun i hi hn => ho.block i hi (by simp; intro e; exact hn (by rw [e]))⟩ (by simp [hne])
theorem own_isMap {w : World} {M n : Nat} {k : TypeId} {D : DataW Value} (h : w.ownsMap Tryz.prog k RV M n D) : ∃ es c, w.heap[M]? = some (.map es c) := by
  obtain ⟨es, c, h, _⟩ := h; exact ⟨es, c, h⟩
/-- the bound can be the size itself -/
theorem own_tight {w : World} {M n : Nat} {k : TypeId} {D : DataW Value} (h : w.ownsMap Tryz.prog k RV M n D) : w.ownsMap Tryz.prog k RV M (Maps.size D) D := by
  obtain ⟨es, clock, hb, F, hs, rfl⟩ := h
  exact ⟨es, clock, hb, F, by simp [Maps.size, length_sorted], rfl⟩

/-- changes by their names, as a function -/
abbrev Am := List UInt8 → Option Ch
/-- the datum of an amendment's map says f -/
structure ReadA (w : World) (D : DataW Value) (f : Am) : Prop where
  isMap : IsMap D
  has : ∀ x, Maps.has D (.string x) = (f x).isSome
  at' : ∀ x c, f x = some c → nmb c = x ∧ c.name.size ≤ maxLen ∧ ∃ g, (∀ z, D.atKey (.string x) z = .held (enV c g)) ∧ BoxC w g c
theorem ReadA.step {w w' : World} {D : DataW Value} {f : Am} (h : ReadA w D f) (hb : Below w.heap.size w w') : ReadA w' D f := ⟨h.isMap, h.has, fun x c e => by
  obtain ⟨h1, h2, g, h3, h4⟩ := h.at' x c e
  exact ⟨h1, h2, g, h3, (hb.block g (Array.getElem?_eq_some_iff.1 h4).1).trans h4⟩⟩
theorem ReadA.only {w w' : World} {M : Nat} {D : DataW Value} {f : Am} (h : ReadA w D f) (ho : OnlyL [M] w w') (hm : ∃ es k, w.heap[M]? = some (.map es k)) : ReadA w' D f := ⟨h.isMap, h.has, fun x c e => by
  obtain ⟨h1, h2, g, h3, h4⟩ := h.at' x c e
  exact ⟨h1, h2, g, h3, heap_only h4 ho hm⟩⟩
/-- one more change -/
def putA (f : Am) (c : Ch) : Am := fun x => if x = nmb c then some c else f x
theorem ReadA.nil (w : World) : ReadA w (.map []) (fun _ => none) := ⟨isMap_empty, fun x => by rw [has_eq]; rfl, fun x v h => by cases h⟩
theorem ReadA.put {w : World} {D : DataW Value} {f : Am} (h : ReadA w D f) {c : Ch} {g : Nat} (hc : c.name.size ≤ maxLen) (hb : BoxC w g c) : ReadA w (D.put (keyS c.name) (.held (enV c g))) (putA f c) where
  isMap := h.isMap.put _ _
  has x := by
    unfold putA
    by_cases e : x = nmb c
    · subst e; rw [if_pos rfl]; exact has_put_same h.isMap (strL_lit _) _
    · rw [if_neg e, has_put_other (show (Lit.string x) ≠ keyS c.name from fun q => e (by unfold keyS at q; injection q))]; exact h.has x
  at' x u hu := by
    unfold putA at hu
    by_cases e : x = nmb c
    · subst e
      rw [if_pos rfl] at hu
      injection hu with hu; subst hu
      exact ⟨rfl, hc, g, fun z => atKey_put_same h.isMap (strL_lit _) _ z, hb⟩
    · rw [if_neg e] at hu
      obtain ⟨h1, h2, g', h3, h4⟩ := h.at' x u hu
      exact ⟨h1, h2, g', fun z => (atKey_put_other (show (Lit.string x) ≠ keyS c.name from fun q => e (by unfold keyS at q; injection q)) _ z).trans (h3 z), h4⟩

/-- an amendment in memory; N: how many names -/
structure AmAt (w : World) (a M : Nat) (f : Am) (N : Nat) : Prop where
  box : w.heap[a]? = some (.cells #[.map (some M)] 81 (0, 0))
  own : ∃ D, w.ownsMap Tryz.prog 9 RV M N D ∧ ReadA w D f ∧ Maps.size D = N
section
variable {w w' : World} {a M a' M' : Nat} {f f' : Am} {N N' : Nat}
theorem AmAt.isMap (h : AmAt w a M f N) : ∃ es c, w.heap[M]? = some (.map es c) := by obtain ⟨D, h, _⟩ := h.own; exact own_isMap h
theorem AmAt.lt (h : AmAt w a M f N) : a < w.heap.size ∧ M < w.heap.size := by
  obtain ⟨D, h1, _⟩ := h.own
  exact ⟨(Array.getElem?_eq_some_iff.1 h.box).1, h1.lt⟩
theorem AmAt.step (h : AmAt w a M f N) (hb : Below w.heap.size w w') : AmAt w' a M f N where
  box := (hb.block a h.lt.1).trans h.box
  own := by
    obtain ⟨D, h1, h2, h3⟩ := h.own
    exact ⟨D, own_step h1 hb, h2.step hb, h3⟩
theorem AmAt.only (h : AmAt w a M f N) (hm : ∃ es k, w.heap[M']? = some (.map es k)) (hne : M ≠ M') (ho : OnlyL [M'] w w') : AmAt w' a M f N where
  box := heap_only h.box ho hm
  own := by
    obtain ⟨D, h1, h2, h3⟩ := h.own
    exact ⟨D, own_only h1 ho hne, h2.only ho hm, h3⟩
/-- a change is laid into its map -/
theorem AmAt.put (h : AmAt w a M f N) {c : Ch} {g : Nat} (hc : c.name.size ≤ maxLen) (hb : BoxC w g c) (hN : N < 100000) :
    ∃ w', (Instr.mapUpdate 79 (.map (some M)) (.string c.name) (enV c g)).run Tryz.prog w = .ok () w' ∧ (∃ N', AmAt w' a M (putA f c) N' ∧ N' ≤ N + 1) ∧ w.grownBy w' (some M) := by
  obtain ⟨D, hown, hr, hs⟩ := h.own
  obtain ⟨w4, hrun, hown4, hg4⟩ := hown.update lawS Tryz.underlying79 (by unfold maxLen; omega) (key := .string c.name) (val := enV c g) (keyS_of hc) (d := .held (enV c g)) (ps := []) rfl
  have hm := own_isMap hown
  have hsz := hown4.size_le
  exact ⟨w4, hrun, ⟨_, ⟨heap_turn h.box hg4 hm, _, own_tight hown4, (hr.put hc hb).only (only_turn hg4) hm, rfl⟩, hsz⟩, hg4⟩
end

set_option maxRecDepth 100000 in
set_option maxHeartbeats 4000000 in
theorem none_any (w : World) : Calls Tryz.prog 28 #[] w fun e w' => ∃ a M, e = .returned (.pointer (some ⟨a, 0, none⟩)) ∧ AmAt w' a M (fun _ => none) 0 ∧ w.heap.size ≤ a ∧ w.heap.size ≤ M ∧ Below w.heap.size w w' := by
  have hmm := @run_makeMap Tryz.prog
  go_enter Tryz.func28, Tryz.ntmps28
  go_wp2_with fail
  go_ret
  exact ⟨w.heap.size + 1, w.heap.size, rfl, ⟨blk_new (by simp), .map [], (World.ownsMap_made w Tryz.prog 9 RV).alloc _, ReadA.nil _, rfl⟩, by omega, Nat.le_refl _, by (repeat' (first | with_reducible exact Below.refl _ _ | with_reducible assumption | with_reducible refine Below.drew ?_ | with_reducible refine below_drewN ?_ _ | with_reducible refine Below.setCell ?_ ?_ _ | with_reducible refine Below.alloc ?_ ?_ _ | omega | (simp; done) | (simp; omega)))⟩

set_option maxRecDepth 100000 in
set_option maxHeartbeats 4000000 in
theorem len_any (a M N : Nat) (f : Am) (w : World) (h : AmAt w a M f N) : Calls Tryz.prog 13 #[.pointer (some ⟨a, 0, none⟩)] w fun e w' => e = .returned (.int .i64 N) ∧ Below w.heap.size w w' := by
  obtain ⟨D, hown, hr, hz⟩ := h.own
  have BX := Lib.hid h.box
  have cB := cellH BX
  clear h hr
  go_enter Tryz.func13, Tryz.ntmps13
  go_wp2_with (at_len; refine wpList_len_own _ rfl _ 79 rfl 9 77 Tryz.underlying79 RV M N D rfl hown ?_; rw [hz])
  go_ret
  exact ⟨rfl, by (repeat' (first | with_reducible exact Below.refl _ _ | with_reducible assumption | with_reducible refine Below.drew ?_ | with_reducible refine below_drewN ?_ _ | with_reducible refine Below.setCell ?_ ?_ _ | with_reducible refine Below.alloc ?_ ?_ _ | omega | (simp; done) | (simp; omega)))⟩

set_option maxRecDepth 100000 in
set_option maxHeartbeats 4000000 in
theorem few_many (a M N : Nat) (f : Am) (E : Nat → Addr) (w : World) (h : AmAt w a M f N) (h5 : 500 < N) (hE : Env LA E w) : Calls Tryz.prog 39 #[.pointer (some ⟨a, 0, none⟩)] w fun e w' => e = .returned (.tuple #[.pointer none, errA E (some 1)]) ∧ Below w.heap.size w w' := by
  obtain ⟨D, hown, hr, hz⟩ := h.own
  have BX := Lib.hid h.box
  have cB := cellH BX
  have cE := hE.cell 1 (by decide)
  have e5 : decide ((500 : Int) < (N : Int)) = true := decide_eq_true (by omega)
  clear h hr hE
  go_enter Tryz.func39, Tryz.ntmps39
  go_wp2_with (at_len; refine wpList_len_own _ rfl _ 79 rfl 9 77 Tryz.underlying79 RV M N D rfl hown ?_; rw [hz])
  go_region_held3 (fun w' => w'.cell? ⟨1, 0, none⟩ = some (.iface 184 (.pointer (some (E 1))))) (first | with_reducible exact cE | go_keep)
    (fail)
  go_wp2_with fail
  go_ret2
  exact ⟨rfl, by (repeat' (first | with_reducible exact Below.refl _ _ | with_reducible assumption | with_reducible refine Below.drew ?_ | with_reducible refine below_drewN ?_ _ | with_reducible refine Below.setCell ?_ ?_ _ | with_reducible refine Below.alloc ?_ ?_ _ | omega | (simp; done) | (simp; omega)))⟩

set_option maxRecDepth 100000 in
set_option maxHeartbeats 4000000 in
theorem few_ok (a M N : Nat) (f : Am) (w : World) (h : AmAt w a M f N) (h5 : N ≤ 500) : Calls Tryz.prog 39 #[.pointer (some ⟨a, 0, none⟩)] w fun e w' => e = .returned (.tuple #[.pointer (some ⟨a, 0, none⟩), .nilIface]) ∧ Below w.heap.size w w' := by
  obtain ⟨D, hown, hr, hz⟩ := h.own
  have BX := Lib.hid h.box
  have cB := cellH BX
  have e5 : decide ((500 : Int) < (N : Int)) = false := decide_eq_false (by omega)
  clear h hr
  go_enter Tryz.func39, Tryz.ntmps39
  go_wp2_with (at_len; refine wpList_len_own _ rfl _ 79 rfl 9 77 Tryz.underlying79 RV M N D rfl hown ?_; rw [hz])
  go_ret2
  exact ⟨rfl, by (repeat' (first | with_reducible exact Below.refl _ _ | with_reducible assumption | with_reducible refine Below.drew ?_ | with_reducible refine below_drewN ?_ _ | with_reducible refine Below.setCell ?_ ?_ _ | with_reducible refine Below.alloc ?_ ?_ _ | omega | (simp; done) | (simp; omega)))⟩
end Go.Proofs.YtmoeoomlggjaaaaGreatDoor
