/- Names of inputs; a change's fault: walks. -/
import Derived.Test.YtmoeoomlggjaaaaGreatDoorBkF
namespace Go.Proofs.YtmoeoomlggjaaaaGreatDoor
open Go.RowKit

theorem cell_at {w W : World} {a : Addr} {v : Value} (h : w.cell? a = some v) (hb : Below w.heap.size w W) : W.cell? a = some v := (hb.cell (World.block_lt_of_cell? _ _ h)).trans h
theorem nameB_size {s : ByteArray} (h : nameB s = true) : s.size ≤ 64 := by
  unfold nameB at h
  simp only [Bool.and_eq_true, decide_eq_true_eq] at h
  exact h.2.1
theorem nameB_big {s : ByteArray} (hs : 64 < s.size) : nameB s = false := by
  rw [Bool.eq_false_iff]; intro h; have := nameB_size h; omega

theorem space_big (s : ByteArray) (m : Int) (w : World) (hs : 64 < s.size) (hm : w.cell? ⟨4, 0, none⟩ = some (.int .i64 m)) : Calls Tryz.prog 58 #[.string s] w fun e w' => e = .returned (.string (spaceB s)) ∧ Below w.heap.size w w' := by
  have HE : Hid (spaceB s = ByteArray.empty) := by show _ = _; unfold spaceB; rw [nameB_big hs]; rfl
  have HN := Lib.hid (name_any s m w hm)
  rw [nameB_big hs] at HN
  clear hm
  go_enter Tryz.func58, Tryz.ntmps58
  go_wp2_with fail
  refine HN.out.mono ?_
  rintro e w1 ⟨rfl, hb⟩
  go_wp2_with fail
  go_ret
  exact ⟨by rw [HE.out]; rfl, hb⟩
theorem rest_big (s : ByteArray) (m : Int) (w : World) (hs : 64 < s.size) (hm : w.cell? ⟨4, 0, none⟩ = some (.int .i64 m)) : Calls Tryz.prog 59 #[.string s] w fun e w' => e = .returned (.string (restB s)) ∧ Below w.heap.size w w' := by
  have HE : Hid (restB s = ByteArray.empty) := by show _ = _; unfold restB; rw [nameB_big hs]; rfl
  have HN := Lib.hid (name_any s m w hm)
  rw [nameB_big hs] at HN
  clear hm
  go_enter Tryz.func59, Tryz.ntmps59
  go_wp2_with fail
  refine HN.out.mono ?_
  rintro e w1 ⟨rfl, hb⟩
  go_wp2_with fail
  go_ret
  exact ⟨by rw [HE.out]; rfl, hb⟩
theorem space_all (s : ByteArray) (x : ByteArray) (m : Int) (w : World) (hm : w.cell? ⟨4, 0, none⟩ = some (.int .i64 m)) (hx : spaceB s = x) : Calls Tryz.prog 58 #[.string s] w fun e w' => e = .returned (.string x) ∧ Below w.heap.size w w' := by
  subst hx
  by_cases h : 64 < s.size
  · exact space_big s m w h hm
  · exact space_any s m w (by omega) hm
theorem rest_all (s : ByteArray) (x : ByteArray) (m : Int) (w : World) (hm : w.cell? ⟨4, 0, none⟩ = some (.int .i64 m)) (hx : restB s = x) : Calls Tryz.prog 59 #[.string s] w fun e w' => e = .returned (.string x) ∧ Below w.heap.size w w' := by
  subst hx
  by_cases h : 64 < s.size
  · exact rest_big s m w h hm
  · exact rest_any s m w (by omega) hm

/-- is it an input's name? -/
def inB (s : ByteArray) : Bool := (spaceB s).toList == [105, 110] && !(restB s).toList.isEmpty

set_option maxRecDepth 10000 in
set_option maxHeartbeats 4000000 in
theorem input_any (s : ByteArray) (m : Int) (w : World) (hm : w.cell? ⟨4, 0, none⟩ = some (.int .i64 m)) : Calls Tryz.prog 33 #[.string s] w fun e w' => e = .returned (.bool (inB s)) ∧ Below w.heap.size w w' := by
  obtain ⟨x, hx⟩ : ∃ x, spaceB s = x := ⟨_, rfl⟩
  obtain ⟨y, hy⟩ : ∃ y, restB s = y := ⟨_, rfl⟩
  have HS := Lib.hid (space_all s x m w hm hx)
  have HR := Lib.hid (fun W (h : Below w.heap.size w W) => rest_all s y m W (cell_at hm h) hy)
  have HQ : Hid (inB s = (x.toList == [105, 110] && !y.toList.isEmpty)) := by show _ = _; unfold inB; rw [hx, hy]
  clear hm hx hy
  cases h1 : (x.toList == [105, 110]) with
  | false =>
    rw [h1] at HQ
    go_enter Tryz.func33, Tryz.ntmps33
    go_wp2_with fail
    refine HS.out.mono ?_
    rintro e w1 ⟨rfl, hb⟩
    go_wp2_with fail
    go_ret
    exact ⟨by rw [HQ.out]; rfl, hb⟩
  | true =>
    rw [h1] at HQ
    cases h2 : y.toList.isEmpty with
    | true =>
      rw [h2] at HQ
      go_enter Tryz.func33, Tryz.ntmps33
      go_wp2_with fail
      refine HS.out.mono ?_
      rintro e w1 ⟨rfl, hb⟩
      go_wp2_with fail
      refine (HR.out w1 hb).mono ?_
      rintro e w2 ⟨rfl, hb2⟩
      have hw2 := stepH hb hb2
      go_wp2_with fail
      go_ret
      exact ⟨by rw [HQ.out]; rfl, hw2⟩
    | false =>
      rw [h2] at HQ
      go_enter Tryz.func33, Tryz.ntmps33
      go_wp2_with fail
      refine HS.out.mono ?_
      rintro e w1 ⟨rfl, hb⟩
      go_wp2_with fail
      refine (HR.out w1 hb).mono ?_
      rintro e w2 ⟨rfl, hb2⟩
      have hw2 := stepH hb hb2
      go_wp2_with fail
      go_ret
      exact ⟨by rw [HQ.out]; rfl, hw2⟩
theorem input_is (s : ByteArray) (b : Bool) (m : Int) (w : World) (hm : w.cell? ⟨4, 0, none⟩ = some (.int .i64 m)) (h : inB s = b) : Calls Tryz.prog 33 #[.string s] w fun e w' => e = .returned (.bool b) ∧ Below w.heap.size w w' := by
  subst h; exact input_any s m w hm
end Go.Proofs.YtmoeoomlggjaaaaGreatDoor
