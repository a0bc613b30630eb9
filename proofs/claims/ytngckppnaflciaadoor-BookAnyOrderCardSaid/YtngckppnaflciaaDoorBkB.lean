/- text.Key; prov.kindOf: walks. -/
import Derived.Test.YtngckppnaflciaaDoorBkA
namespace Go.Proofs.YtngckppnaflciaaDoor
open Go.RowKit

def isP (s : ByteArray) : Bool := s.toList == [112]
def isS (s : ByteArray) : Bool := s.toList == [115]
def isLine (s : ByteArray) : Bool := s.toList == [108, 105, 110, 101]
def keyB (s : ByteArray) : Bool := nameB s && (!(restB s).toList.isEmpty && (isP (spaceB s) || (isS (spaceB s) || isLine (spaceB s))))
def kindB (s : ByteArray) : Int := if isP (spaceB s) then 1 else if isS (spaceB s) then 2 else 3

theorem kind_any (s : ByteArray) (m : Int) (w : World) (hs : s.size < 4294967281) (hm : w.cell? ⟨12, 0, none⟩ = some (.int .i64 m)) : Calls Tryd.prog 36 #[.string s] w fun e w' => e = .returned (.int .i64 (kindB s)) ∧ Below w.heap.size w w' := by
  have HN := Lib.hid (space_any s m w hs hm)
  clear hm
  go_enter Tryd.func36, Tryd.ntmps36
  go_wp2_with fail
  refine HN.out.mono ?_
  rintro e w1 ⟨rfl, hb⟩
  obtain ⟨x, hx⟩ : ∃ x, spaceB s = x := ⟨_, rfl⟩
  have HX := Lib.hid hx
  rw [hx]
  cases h1 : (x.toList == [112]) with
  | true =>
    go_wp2_with fail
    go_ret
    exact ⟨by unfold kindB isP; rw [HX.out, h1]; rfl, hb⟩
  | false =>
    cases h2 : (x.toList == [115]) with
    | true =>
      go_wp2_with fail
      go_ret
      exact ⟨by unfold kindB isP isS; rw [HX.out, h1, h2]; rfl, hb⟩
    | false =>
      go_wp2_with fail
      go_ret
      exact ⟨by unfold kindB isP isS; rw [HX.out, h1, h2]; rfl, hb⟩

theorem key_any (s : ByteArray) (m : Int) (w : World) (hs : s.size < 4294967281) (hm : w.cell? ⟨12, 0, none⟩ = some (.int .i64 m)) : Calls Tryd.prog 34 #[.string s] w fun e w' => e = .returned (.bool (keyB s)) ∧ Below w.heap.size w w' := by
  have HN := Lib.hid (name_any s m w hm)
  have HR := Lib.hid (fun (w' : World) (h : Below w.heap.size w w') => rest_any s m w' hs ((h.cell (World.block_lt_of_cell? _ _ hm)).trans hm))
  have HS := Lib.hid (fun (w' : World) (h : Below w.heap.size w w') => space_any s m w' hs ((h.cell (World.block_lt_of_cell? _ _ hm)).trans hm))
  clear hm
  go_enter Tryd.func34, Tryd.ntmps34
  go_wp2_with fail
  refine HN.out.mono ?_
  rintro e w1 ⟨rfl, hb⟩
  cases hn : nameB s with
  | false =>
    have HE : Hid (keyB s = false) := by show _ = _; unfold keyB; rw [hn]; rfl
    clear hn
    go_wp2_with fail
    go_ret
    exact ⟨by rw [HE.out]; rfl, hb⟩
  | true =>
    have HK : Hid (nameB s = true) := Lib.hid hn
    clear hn
    go_wp2_with fail
    refine (HR.out w1 hb).mono ?_
    rintro e w2 ⟨rfl, hb2⟩
    have h2 : Below w.heap.size w w2 := stepH hb hb2
    obtain ⟨y, hy⟩ : ∃ y, restB s = y := ⟨_, rfl⟩
    have HY := Lib.hid hy
    rw [hy]
    cases h1 : y.toList.isEmpty with
    | true =>
      go_wp2_with fail
      go_ret
      exact ⟨by unfold keyB; rw [HK.out, HY.out, h1]; rfl, h2⟩
    | false =>
      go_wp2_with fail
      refine (HS.out w2 h2).mono ?_
      rintro e w3 ⟨rfl, hb3⟩
      have h3 : Below w.heap.size w w3 := stepH h2 hb3
      obtain ⟨x, hx⟩ : ∃ x, spaceB s = x := ⟨_, rfl⟩
      have HX := Lib.hid hx
      rw [hx]
      have HQ : Hid (keyB s = (isP x || (isS x || isLine x))) := by show _ = _; unfold keyB; rw [HK.out, HY.out, h1, HX.out]; rfl
      cases h4 : (x.toList == [112]) with
      | true =>
        go_wp2_with fail
        go_ret
        exact ⟨by rw [HQ.out]; unfold isP; rw [h4]; rfl, h3⟩
      | false =>
        cases h5 : (x.toList == [115]) with
        | true =>
          go_wp2_with fail
          go_ret
          exact ⟨by rw [HQ.out]; unfold isP isS; rw [h4, h5]; rfl, h3⟩
        | false =>
          cases h6 : (x.toList == [108, 105, 110, 101]) with
          | true =>
            go_wp2_with fail
            go_ret
            exact ⟨by rw [HQ.out]; unfold isP isS isLine; rw [h4, h5, h6]; rfl, h3⟩
          | false =>
            go_wp2_with fail
            go_ret
            exact ⟨by rw [HQ.out]; unfold isP isS isLine; rw [h4, h5, h6]; rfl, h3⟩
end Go.Proofs.YtngckppnaflciaaDoor
