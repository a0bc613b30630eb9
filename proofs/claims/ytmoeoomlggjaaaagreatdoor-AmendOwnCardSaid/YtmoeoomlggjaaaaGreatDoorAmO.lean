/- Inputs: the plain law, the walk. -/
import Derived.Test.YtmoeoomlggjaaaaGreatDoorAmN
namespace Go.Proofs.YtmoeoomlggjaaaaGreatDoor
open Go.RowKit Go.Maps

/-- the first fault of a row of items, behind names that stood already -/
def goI (seen : List (List UInt8)) : List It → Option Nat
  | [] => none
  | x :: r => if inB x.name = false then some 2 else if validB x.n x.d = false then some 3 else if itb x ∈ seen then some 0 else goI (itb x :: seen) r
def faultI (l : List It) : Option Nat := if 500 < l.length then some 1 else goI [] l
theorem inB_size {s : ByteArray} (h : inB s = true) : s.size ≤ 64 := mayE_size (c := ⟨s, true, 0, 0⟩) (by unfold mayE; simp [h])
/-- the datum of the names met -/
structure ReadM (D : DataW Value) (s : List (List UInt8)) : Prop where
  isMap : IsMap D
  has : ∀ x, Maps.has D (.string x) = true ↔ x ∈ s
  at' : ∀ x ∈ s, ∀ z, D.atKey (.string x) z = .held (.int .i64 1)
theorem ReadM.nil : ReadM (.map []) [] := ⟨isMap_empty, fun x => by rw [has_eq]; simp, fun x h => by cases h⟩
theorem ReadM.put {D : DataW Value} {s : List (List UInt8)} (h : ReadM D s) (name : ByteArray) : ReadM (D.put (keyS name) (.held (.int .i64 1))) (name.data.toList :: s) where
  isMap := h.isMap.put _ _
  has x := by
    by_cases e : x = name.data.toList
    · subst e; exact ⟨fun _ => List.mem_cons_self .., fun _ => has_put_same h.isMap (strL_lit _) _⟩
    · rw [has_put_other (show (Lit.string x) ≠ keyS name from fun q => e (by unfold keyS at q; injection q)), h.has x, List.mem_cons]
      simp [e]
  at' x hx z := by
    by_cases e : x = name.data.toList
    · subst e; exact atKey_put_same h.isMap (strL_lit _) _ z
    · rw [atKey_put_other (show (Lit.string x) ≠ keyS name from fun q => e (by unfold keyS at q; injection q))]
      exact h.at' x ((List.mem_cons.1 hx).resolve_left e) z
theorem zeroI (w : World) : (zeroValue 3).run Tryz.prog w = .ok (.int .i64 0) w := by kernel_rfl
set_option maxRecDepth 100000 in
theorem ReadM.find {D : DataW Value} {s : List (List UInt8)} (h : ReadM D s) {name : ByteArray} (hs : name.size ≤ maxLen) (W : World) (n M : Nat) (ho : W.ownsMap Tryz.prog 9 RV M n D) :
    (Instr.lookup 69 (.map (some M)) (.string name) false).run Tryz.prog W = .ok (.int .i64 (if name.data.toList ∈ s then 1 else 0)) W := by
  have hkey := keyS_of hs
  obtain ⟨v, ps, hr, hv⟩ := ho.lookup lawS Tryz.underlying69 (zeroI W) (zd := .held (.int .i64 0)) (zp := []) rfl hkey
  have e := RV_inv hv
  by_cases hm : name.data.toList ∈ s
  · rw [if_pos hm]
    rw [show keyS name = .string name.data.toList from rfl, h.at' _ hm] at e
    injection e with e
    rw [hr, e]
  · rw [if_neg hm]
    have hh : Maps.has D (keyS name) = false := by
      rw [Bool.eq_false_iff]; intro q; exact hm ((h.has _).1 q)
    rw [atKey_of_not_has hh] at e
    injection e with e
    rw [hr, e]
/-- what Inputs answers -/
structure InputsR (E : Nat → Addr) (l : List It) (B : Nat) (e : Ending) (w' : World) : Prop where
  ex : (∃ g, faultI l = some g ∧ g ∈ LA ∧ e = .returned (.tuple #[.slice none 0 0, errA E (some g)])) ∨ (faultI l = none ∧ ∃ v rs, e = .returned (.tuple #[v, .nilIface]) ∧ Own itL 3 53 B w' v rs ∧ rs.Perm l ∧ rs.Pairwise (fun a b => leB (itb a) (itb b) = true))

set_option maxRecDepth 100000 in
set_option maxHeartbeats 4000000 in
theorem inputs_many (l : List It) (A : Option Addr) (cp : Nat) (E : Nat → Addr) (w : World) (h5 : 500 < l.length) (hE : Env LA E w) :
    Calls Tryz.prog 8 #[.slice A l.length cp] w fun e w' => InputsR E l w.heap.size e w' ∧ Below w.heap.size w w' := by
  have HR : Hid (InputsR E l w.heap.size (.returned (.tuple #[.slice none 0 0, errA E (some 1)])) w) := Lib.hid ⟨.inl ⟨_, by unfold faultI; rw [if_pos h5], by unfold LA; simp, rfl⟩⟩
  have cE := hE.cell 1 (by decide)
  have e5 : decide ((500 : Int) < (l.length : Int)) = true := decide_eq_true (by omega)
  have e6 : (500 : Int) < (l.length : Int) := by omega
  clear hE
  rw [show errA E (some 1) = .iface 184 (.pointer (some (E 1))) from rfl] at HR
  go_enter Tryz.func8, Tryz.ntmps8
  go_wp2_with fail
  go_region_held3 (fun w' => w'.cell? ⟨1, 0, none⟩ = some (.iface 184 (.pointer (some (E 1))))) (first | with_reducible exact cE | go_keep)
    (fail)
  go_wp2_with fail
  go_ret2
  refine ⟨⟨?_⟩, by (repeat' (first | with_reducible exact Below.refl _ _ | with_reducible assumption | with_reducible refine Below.drew ?_ | with_reducible refine below_drewN ?_ _ | with_reducible refine Below.setCell ?_ ?_ _ | with_reducible refine Below.alloc ?_ ?_ _ | omega | (simp; done) | (simp; omega)))⟩
  rcases HR.out.ex with ⟨g, h1, h2, h3⟩ | ⟨h1, v, rs, h2, _⟩
  · exact .inl ⟨g, h1, h2, h3⟩
  · cases h2
end Go.Proofs.YtmoeoomlggjaaaaGreatDoor
