/- maps.Clone at an amendment's map: the walk. -/
import Derived.Test.YtmoeoomlggjaaaaGreatDoorAmI
import Derived.Shelf.SlMaps.Clone
namespace Go.Proofs.YtmoeoomlggjaaaaGreatDoor
open Go.RowKit Go.Maps

set_option maxRecDepth 100000 in
set_option maxHeartbeats 2000000 in
theorem clone_is (M : Nat) (es : Array MapEntry) (clock : Nat) (w : World) (hb : w.heap[M]? = some (.map es clock)) :
    Calls Tryz.prog 55 #[.map (some M)] w fun e w' => e = .returned (.map (some w.heap.size)) ∧ w' = w.alloc (.map es clock) := by
  have hq := fun w => run_eql_map_nil_sl (P := Tryz.prog) w 79 _ _ (some M) Tryz.underlying79
  have hcl : (callFunc 77 #[.iface 79 (.map (some M))]).run Tryz.prog w = .ok (.value (.iface 79 (.map (some w.heap.size)))) (w.alloc (.map es clock)) := by
    rw [run_callFunc_extern (f := 77) (fn := Tryz.f77) (by kernel_rfl) (by kernel_rfl) (by kernel_rfl) (by kernel_rfl) (e := Extern.MapsClone.clone) (by kernel_rfl), run_maps_clone_sl w 79 hb]
    rfl
  have hta := fun W => run_typeAssert_map_sl (P := Tryz.prog) W 79 20 _ _ (.map (some w.heap.size)) Tryz.underlying79
  go_enter Tryz.func55, Tryz.ntmps55
  go_wp2_with fail
  go_ret
  exact ⟨rfl, rfl⟩
end Go.Proofs.YtmoeoomlggjaaaaGreatDoor
