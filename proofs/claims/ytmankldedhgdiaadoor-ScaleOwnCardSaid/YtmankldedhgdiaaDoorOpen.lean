/- Arguments opened: slices of fractions. -/
import Derived.Test.YtmankldedhgdiaaDoorEnv
import Derived.Test.YtmankldedhgdiaaDoorSums
namespace Go.Proofs.YtmankldedhgdiaaDoor
open Go.ChangeShapes Go.WideShapes Go.ChangeAt Go.RowKit Go.Joins Go.Deep

section
variable {H : Type} {ench : TypeId × Value → H} {w : World} {base : Nat} {spare : Nat → Bool} {held : Bool}
set_option maxRecDepth 100000 in
theorem frac_fields : ∃ f0 f1 : Field, Tryd.prog.underlying 24 = some (.struct #[f0, f1]) ∧ f0.type = 3 ∧ f1.type = 3 ∧ oneCellFields Tryd.prog #[f0, f1] = true := ⟨_, _, Tryd.underlying24, rfl, rfl, by kernel_rfl⟩
set_option maxRecDepth 100000 in
theorem frac_elem {n : Nat} {cs : List Value} {y : DataW H × List MemPlace} (hl : cs.length = 2) (h : DataW.trod ench Tryd.prog w base spare held n 24 cs = some y) : ∃ x : Int × Int, cs = encF x ∧ In2 x := by
  obtain ⟨f0, f1, hs, t0, t1, hone⟩ := frac_fields
  obtain ⟨ys, n', _, hx, _, hlen, hg⟩ := DataW.trod_struct hs h
  obtain ⟨o0, k0⟩ := hone_of hone 0 f0 rfl
  obtain ⟨o1, k1⟩ := hone_of hone 1 f1 rfl
  match cs, hl, ys, hlen with
  | [c0, c1], _, [y0, y1], _ =>
    have h0 : DataW.trod ench Tryd.prog w base spare held n' f0.type [c0] = some y0 := by simpa [o0, k0] using hg 0 f0 rfl
    have h1 : DataW.trod ench Tryd.prog w base spare held n' f1.type [c1] = some y1 := by simpa [o1, k1] using hg 1 f1 rfl
    rw [t0] at h0
    rw [t1] at h1
    obtain ⟨a, ea, _, wa⟩ := DataW.trod_int Tryd.underlying3 h0
    obtain ⟨b, eb, _, wb⟩ := DataW.trod_int Tryd.underlying3 h1
    simp only [List.cons.injEq, and_true] at ea eb
    subst ea eb
    obtain ⟨a1, a2⟩ := i64_bounds wa
    obtain ⟨b1, b2⟩ := i64_bounds wb
    exact ⟨(a, b), rfl, a1, a2, b1, b2⟩
set_option maxRecDepth 100000 in
/-- an argument '[]Frac' -/
theorem open_fracs {r : Reach} {b0 : Nat} {v : Value} {d : DataW H} {p : List MemPlace} (hv : Value.okWide Tryd.prog w r b0 39 v) (h : DataW.Trod ench Tryd.prog w base spare held 39 v d p) :
    ∃ A c, ∃ l : List (Int × Int), v = .slice A l.length c ∧ l.length ≤ c ∧ c ≤ maxLen ∧ RowAt encF 2 w w.heap.size A l ∧ ∀ x ∈ l, In2 x := by
  obtain ⟨a, len, cap, rfl⟩ := okWide_slice Tryd.underlying39 hv
  obtain ⟨fuel, hf⟩ := h
  obtain ⟨A, c, l, hcs, h1, h2, h3, h4⟩ := open_rows (enc := encF) (good := In2) (size := 2) (by decide) encF_len Tryd.underlying39 (by kernel_rfl) (fun n cs y hl ht => frac_elem hl ht) hf
  refine ⟨A, c, l, ?_, h1, h2, h3, h4⟩
  simpa [Value.cells] using hcs
end
end Go.Proofs.YtmankldedhgdiaaDoor
