/- Arguments opened: slices of brackets. -/
import Derived.Test.YtmankldedhgdiaaDoorOpen
import Derived.Test.YtmankldedhgdiaaDoorScaleA
namespace Go.Proofs.YtmankldedhgdiaaDoor
open Go.ChangeShapes Go.WideShapes Go.ChangeAt Go.RowKit Go.Joins Go.Deep

section
variable {H : Type} {ench : TypeId × Value → H} {w : World} {base : Nat} {spare : Nat → Bool} {held : Bool}
set_option maxRecDepth 100000 in
theorem bracket_elem_of {f0 f1 : Field} {n : Nat} {cs : List Value} {y : DataW H × List MemPlace} (hs : Tryd.prog.underlying 31 = some (.struct #[f0, f1])) (h0 : f0.type = 24 ∧ f0.offset = 0) (h1 : f1.type = 24 ∧ f1.offset = 2) (hC : Tryd.prog.cellsOf 24 = 2)
    (hl : cs.length = 4) (h : DataW.trod ench Tryd.prog w base spare held n 31 cs = some y) : ∃ x : BI, cs = encR x ∧ In4 x := by
  obtain ⟨ys, n', _, hx, _, hlen, hg⟩ := DataW.trod_struct hs h
  match cs, hl, ys, hlen with
  | [c0, c1, c2, c3], _, [y0, y1], _ =>
    have e0 := hg 0 f0 rfl
    have e1 := hg 1 f1 rfl
    rw [h0.2, h0.1, hC] at e0
    rw [h1.2, h1.1, hC] at e1
    have e0' : DataW.trod ench Tryd.prog w base spare held n' 24 [c0, c1] = some y0 := by simpa using e0
    have e1' : DataW.trod ench Tryd.prog w base spare held n' 24 [c2, c3] = some y1 := by simpa using e1
    obtain ⟨a, ha, a1, a2, a3, a4⟩ := frac_elem rfl e0'
    obtain ⟨b, hb, b1, b2, b3, b4⟩ := frac_elem rfl e1'
    simp only [encF, List.cons.injEq, and_true] at ha hb
    obtain ⟨rfl, rfl⟩ := ha
    obtain ⟨rfl, rfl⟩ := hb
    exact ⟨(a.1, a.2, b.1, b.2), rfl, ⟨a1, a2⟩, ⟨a3, a4⟩, ⟨b1, b2⟩, ⟨b3, b4⟩⟩
set_option maxRecDepth 100000 in
theorem bracket_elem {n : Nat} {cs : List Value} {y : DataW H × List MemPlace} (hl : cs.length = 4) (h : DataW.trod ench Tryd.prog w base spare held n 31 cs = some y) : ∃ x : BI, cs = encR x ∧ In4 x :=
  bracket_elem_of Tryd.underlying31 ⟨rfl, by kernel_rfl⟩ ⟨rfl, by kernel_rfl⟩ (by kernel_rfl) hl h
set_option maxRecDepth 100000 in
/-- an argument '[]Bracket' -/
theorem open_brackets {r : Reach} {b0 : Nat} {v : Value} {d : DataW H} {p : List MemPlace} (hv : Value.okWide Tryd.prog w r b0 22 v) (h : DataW.Trod ench Tryd.prog w base spare held 22 v d p) :
    ∃ A c, ∃ l : List BI, v = .slice A l.length c ∧ l.length ≤ c ∧ c ≤ maxLen ∧ RowAt encR 4 w w.heap.size A l ∧ ∀ x ∈ l, In4 x := by
  obtain ⟨a, len, cap, rfl⟩ := okWide_slice Tryd.underlying22 hv
  obtain ⟨fuel, hf⟩ := h
  obtain ⟨A, c, l, hcs, h1, h2, h3, h4⟩ := open_rows (enc := encR) (good := In4) (size := 4) (by decide) encR_len Tryd.underlying22 (by kernel_rfl) (fun n cs y hl ht => bracket_elem hl ht) hf
  refine ⟨A, c, l, ?_, h1, h2, h3, h4⟩
  simpa [Value.cells] using hcs
end
end Go.Proofs.YtmankldedhgdiaaDoor
