/- Then, Same, Apply where all fits: contracts. -/
import Derived.Test.YtmoeoomlggjaaaaGreatDoorAnE
namespace Go.Proofs.YtmoeoomlggjaaaaGreatDoor
open Go.RowKit Go.Maps

theorem then_fit (a M N a' M' N' : Nat) (f f' h : Am) (E : Nat → Addr) (w : World) (h1 : AmAt w a M f N) (h2 : AmAt w a' M' f' N') (hN : N + N' ≤ 500) (hE : Env LA E w) (hh : over f f' = h) :
    Calls Tryz.prog 27 #[.pointer (some ⟨a, 0, none⟩), .pointer (some ⟨a', 0, none⟩)] w fun e w' => (∃ b Mb Nb, e = .returned (.tuple #[.pointer (some ⟨b, 0, none⟩), .nilIface]) ∧ AmAt w' b Mb h Nb ∧ Nb ≤ N + N') ∧ Below w.heap.size w w' := by
  subst hh
  refine (then_any a M N a' M' N' f f' E w h1 h2 (by omega) hE).mono ?_
  rintro e w1 ⟨⟨b, Mb, Nb, hb, _, _, hn, h5 | h5⟩, hb1⟩
  · exact ⟨⟨b, Mb, Nb, h5.2, hb, hn⟩, hb1⟩
  · omega
theorem same_fit (a M N a' M' N' : Nat) (f : Am) (w : World) (h : AmAt w a M f N) (h' : AmAt w a' M' f N') (hN : N ≤ 100000) (hN' : N' ≤ 100000) :
    Calls Tryz.prog 29 #[.pointer (some ⟨a, 0, none⟩), .pointer (some ⟨a', 0, none⟩)] w fun e w' => e = .returned (.bool true) ∧ Below w.heap.size w w' := by
  obtain ⟨l, hl, _⟩ := am_canon h
  refine (same_any a M N a' M' N' f f l l w h h' hN hN' hl hl).mono ?_
  rintro e w1 ⟨⟨b, rfl, hb⟩, hb1⟩
  exact ⟨by rw [hb.2 rfl], hb1⟩
theorem apply_fit (a M N : Nat) (g : Am) (l : List It) (A : Option Addr) (cp : Nat) (E : Nat → Addr) (m : Int) (w : World) (h : AmAt w a M g N) (hN : N ≤ 50000) (hl : RowAt itL 3 w w.heap.size A l) (hI : ∀ x ∈ l, InI x) (hE : Env LA E w) (hm : w.cell? ⟨4, 0, none⟩ = some (.int .i64 m)) (hA : A = none → cp = 0) (hok : okA g) (hf : faultI l = none)
    (s : St) (hs : app (inF l) g = s) (L : List (List UInt8)) (hL : ∀ y, (s y).isSome = true → y ∈ L) (h5 : L.length ≤ 500) :
    Calls Tryz.prog 11 #[.pointer (some ⟨a, 0, none⟩), .slice A l.length cp] w fun e w' => (∃ A1 c1 rs, e = .returned (.tuple #[.slice A1 rs.length c1, .nilIface]) ∧ RowAt itL 3 w' w'.heap.size A1 rs ∧ (A1 = none → c1 = 0) ∧ CanonI s rs ∧ rs.length ≤ L.length) ∧ Below w.heap.size w w' := by
  subst hs
  refine (apply_any a M N g l A cp E m w h hN hl hI hE hm hA hok).mono ?_
  rintro e w1 ⟨q, hb1⟩
  refine ⟨?_, hb1⟩
  rcases q with ⟨x, hx, _⟩ | ⟨_, ⟨rs, hc, q⟩⟩
  · rw [hf] at hx; cases hx
  have hlen := hc.len hL
  rcases q with ⟨_, v, rfl, hown⟩ | ⟨h6, _⟩
  · obtain ⟨A1, c1, rfl, hr1, hn1, _⟩ := own_line (fun x _ => itL_len x) hown
    exact ⟨A1, c1, rs, rfl, hr1, hn1, hc, hlen⟩
  · omega
theorem sameIs_fit (l : List It) (A1 A2 : Option Addr) (c1 c2 : Nat) (w : World) (h1 : RowAt itL 3 w w.heap.size A1 l) (h2 : RowAt itL 3 w w.heap.size A2 l) (hm : l.length ≤ 100000) :
    Calls Tryz.prog 12 #[.slice A1 l.length c1, .slice A2 l.length c2] w fun e w' => e = .returned (.bool true) ∧ Below w.heap.size w w' := by
  refine (sameIs_any l l A1 A2 c1 c2 w h1 h2 hm).mono ?_
  rintro e w1 ⟨⟨b, rfl, hb⟩, hb1⟩
  exact ⟨by rw [hb.2 rfl], hb1⟩
theorem copyI_fit (l : List It) (A : Option Addr) (c : Nat) (w : World) (hl : RowAt itL 3 w w.heap.size A l) (hN : l.length ≤ 100000) :
    Calls Tryz.prog 9 #[.slice A l.length c] w fun e w' => (∃ A1 c1, e = .returned (.slice A1 l.length c1) ∧ RowAt itL 3 w' w'.heap.size A1 l ∧ (A1 = none → c1 = 0)) ∧ Below w.heap.size w w' := by
  refine (copyI_any l A c w hl hN).mono ?_
  rintro e w1 ⟨⟨v, rfl, hown⟩, hb1⟩
  obtain ⟨A1, c1, rfl, hr1, hn1, _⟩ := own_line (fun x _ => itL_len x) hown
  exact ⟨⟨A1, c1, rfl, hr1, hn1⟩, hb1⟩
theorem app_names {s : St} {f : Am} {L : List (List UInt8)} {cl : List Ch} (hs : ∀ y, (s y).isSome = true → y ∈ L) (hc : Canon f cl) : ∀ y, (app s f y).isSome = true → y ∈ L ++ cl.map nmb := app_sup hs (fun y hy => (hc.keys.mem y).2 hy)
theorem in_names (l : List It) : ∀ y, (inF l y).isSome = true → y ∈ l.map itb := fun y h => (inF_some y).1 h
/-- a faultless row of pointers: its cells -/
theorem ptr_cell {w : World} {B : Nat} {A : Option Addr} {ps : List (Nat × Nat)} {k : Nat} {p : Nat × Nat} (h : RowAt ptL 1 w B A ps) (hk : ps[k]? = some p) : ∃ g off, A = some ⟨g, off, none⟩ ∧ w.cell? ⟨g, off + k, none⟩ = some (.pointer (some ⟨p.1, 0, none⟩)) := by
  obtain ⟨g, off, rfl, _, hc⟩ := h k p hk
  exact ⟨g, off, rfl, by have := hc 0 _ rfl; simpa using this⟩
end Go.Proofs.YtmoeoomlggjaaaaGreatDoor
