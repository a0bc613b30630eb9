/- ScaleOwn: the law's walk, whole. -/
import Derived.Test.YtmankldedhgdiaaDoorSoQ
import Derived.Test.YtmankldedhgdiaaDoorSoR
namespace Go.Proofs.YtmankldedhgdiaaDoor
open Go.RowKit

theorem scaleOwn_walk (s t : List BI) (A B : Option Addr) (c d : Nat) (k1 k2 x1 x2 : Int) (E : Nat → Addr) (w : World) (hl : RowAt encR 4 w w.heap.size A s) (hr : RowAt encR 4 w w.heap.size B t) (hI : ∀ b ∈ s, In4 b) (hJ : ∀ b ∈ t, In4 b) (Bk1 : -9223372036854775808 ≤ k1 ∧ k1 ≤ 9223372036854775807) (Bk2 : -9223372036854775808 ≤ k2 ∧ k2 ≤ 9223372036854775807) (Bx1 : -9223372036854775808 ≤ x1 ∧ x1 ≤ 9223372036854775807) (Bx2 : -9223372036854775808 ≤ x2 ∧ x2 ≤ 9223372036854775807) (hE : Env LC E w) (hm : s.length ≤ 9223372036854775807) (hn : t.length ≤ 9223372036854775807) :
    Calls Tryd.prog 3 #[.slice A s.length c, .slice B t.length d, .agg #[.int .i64 k1, .int .i64 k2], .agg #[.int .i64 x1, .int .i64 x2]] w fun e w' => e = .returned (.bool true) ∧ Below w.heap.size w w' := by
  by_cases h : s.length ≤ 200 ∧ t.length ≤ 200 ∧ scaleE s = none ∧ scaleE t = none ∧ validB k1 k2 = true ∧ validB x1 x2 = true
  · obtain ⟨_, _, hs, ht, hk, hx⟩ := h
    obtain ⟨gs, rfl, hg, g1, g2, g3⟩ := scaleE_none hs
    obtain ⟨ts, rfl, hu, u1, u2, u3⟩ := scaleE_none ht
    obtain ⟨k, hk1, rfl, rfl⟩ := good_of_validB hk
    obtain ⟨x, hx1, rfl, rfl⟩ := good_of_validB hx
    have q := scaleOwn_main gs ts A B c d k x E w hl hr hg hu hs ht g1 u1 g2 (ris_of g3) (ris_of u3) hk1 hx1 hE
    rw [List.length_map, List.length_map]
    exact q
  · exact scaleOwn_out s t A B c d k1 k2 x1 x2 E w hl hr hI hJ Bk1 Bk2 Bx1 Bx2 hE h

end Go.Proofs.YtmankldedhgdiaaDoor
