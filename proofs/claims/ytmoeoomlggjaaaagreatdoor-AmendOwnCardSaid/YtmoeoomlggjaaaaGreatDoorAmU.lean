/- Apply: walks. -/
import Derived.Test.YtmoeoomlggjaaaaGreatDoorAmT
namespace Go.Proofs.YtmoeoomlggjaaaaGreatDoor
open Go.RowKit Go.Maps

/-- Inputs, whatever the length -/
theorem inputs_any (l : List It) (A : Option Addr) (cp : Nat) (E : Nat → Addr) (m : Int) (w : World) (hl : RowAt itL 3 w w.heap.size A l) (hI : ∀ x ∈ l, InI x) (hE : Env LA E w) (hm : w.cell? ⟨4, 0, none⟩ = some (.int .i64 m)) (hA : A = none → cp = 0) :
    Calls Tryz.prog 8 #[.slice A l.length cp] w fun e w' => InputsR E l w.heap.size e w' ∧ Below w.heap.size w w' := by
  by_cases h5 : l.length ≤ 500
  · exact inputs_few l A cp E m w hl h5 hI hE hm hA
  · exact inputs_many l A cp E w (by omega) hE

set_option maxRecDepth 100000 in
set_option maxHeartbeats 2000000 in
theorem apply_bad (p : Value) (l : List It) (A : Option Addr) (cp g : Nat) (E : Nat → Addr) (m : Int) (w : World) (hl : RowAt itL 3 w w.heap.size A l) (hI : ∀ x ∈ l, InI x) (hE : Env LA E w) (hm : w.cell? ⟨4, 0, none⟩ = some (.int .i64 m)) (hA : A = none → cp = 0) (hf : faultI l = some g) :
    Calls Tryz.prog 11 #[p, .slice A l.length cp] w fun e w' => e = .returned (.tuple #[.slice none 0 0, errA E (some g)]) ∧ Below w.heap.size w w' := by
  have HIN := Lib.hid (inputs_any l A cp E m w hl hI hE hm hA)
  have HF := Lib.hid hf
  have hne := fun W => eql_nil (E g) W
  clear hl hI hE hm hA hf
  go_enter Tryz.func11, Tryz.ntmps11
  go_wp2_with fail
  refine HIN.out.mono ?_
  rintro e w1 ⟨⟨h⟩, hb1⟩
  rcases h with ⟨g', h1, _, rfl⟩ | ⟨h1, _⟩
  · obtain rfl : g = g' := by rw [HF.out] at h1; injection h1
    clear h1
    rw [show errA E (some g) = .iface 184 (.pointer (some (E g))) from rfl]
    go_wp2_with fail
    go_ret2
    exact ⟨rfl, hb1⟩
  · rw [HF.out] at h1; cases h1
end Go.Proofs.YtmoeoomlggjaaaaGreatDoor
