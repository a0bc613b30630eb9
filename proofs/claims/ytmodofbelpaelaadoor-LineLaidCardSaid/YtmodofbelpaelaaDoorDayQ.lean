/- Arguments opened: slices of spans. -/
import Derived.Test.YtmodofbelpaelaaDoorEnv
import Derived.Test.YtmodofbelpaelaaDoorDayA
namespace Go.Proofs.YtmodofbelpaelaaDoor
open Go.ChangeShapes Go.WideShapes Go.ChangeAt Go.RowKit Go.Joins Go.Deep

def InS (p : Pc Unit) : Prop := (-9223372036854775808 ≤ p.f ∧ p.f ≤ 9223372036854775807) ∧ (-9223372036854775808 ≤ p.t ∧ p.t ≤ 9223372036854775807)

section
variable {H : Type} {ench : TypeId × Value → H} {w : World} {base : Nat} {spare : Nat → Bool} {held : Bool}
set_option maxRecDepth 100000 in
theorem span_fields : ∃ f0 f1 : Field, Tryd.prog.underlying 91 = some (.struct #[f0, f1]) ∧ f0.type = 3 ∧ f1.type = 3 ∧ oneCellFields Tryd.prog #[f0, f1] = true := ⟨_, _, Tryd.underlying91, rfl, rfl, by kernel_rfl⟩
set_option maxRecDepth 100000 in
theorem span_elem {n : Nat} {cs : List Value} {y : DataW H × List MemPlace} (hl : cs.length = 2) (h : DataW.trod ench Tryd.prog w base spare held n 91 cs = some y) : ∃ x : Pc Unit, cs = encU x ∧ InS x := by
  obtain ⟨f0, f1, hs, t0, t1, hone⟩ := span_fields
  obtain ⟨ys, n', _, hx, _, hlen, hg⟩ := DataW.trod_struct hs h
  obtain ⟨o0, k0⟩ := hone_of hone 0 f0 rfl
  obtain ⟨o1, k1⟩ := hone_of hone 1 f1 rfl
  match cs, hl, ys, hlen with
  | [c0, c1], _, [y0, y1], _ =>
    have h0 : DataW.trod ench Tryd.prog w base spare held n' f0.type [c0] = some y0 := by simpa [o0, k0] using hg 0 f0 rfl
    have h1 : DataW.trod ench Tryd.prog w base spare held n' f1.type [c1] = some y1 := by simpa [o1, k1] using hg 1 f1 rfl
    rw [t0] at h0
    rw [t1] at h1
    obtain ⟨a, ea, _, wa⟩ := DataW.trod_int Tryd.underlying3 h0
    obtain ⟨b, eb, _, wb⟩ := DataW.trod_int Tryd.underlying3 h1
    simp only [List.cons.injEq, and_true] at ea eb
    subst ea eb
    exact ⟨⟨a, b, ()⟩, rfl, i64_bounds wa, i64_bounds wb⟩
set_option maxRecDepth 100000 in
/-- an argument '[]Piece' -/
theorem open_spans {r : Reach} {b0 : Nat} {v : Value} {d : DataW H} {p : List MemPlace} (hv : Value.okWide Tryd.prog w r b0 59 v) (h : DataW.Trod ench Tryd.prog w base spare held 59 v d p) :
    ∃ A c, ∃ l : List (Pc Unit), v = .slice A l.length c ∧ l.length ≤ c ∧ c ≤ maxLen ∧ RowAt encU 2 w w.heap.size A l ∧ ∀ x ∈ l, InS x := by
  obtain ⟨a, len, cap, rfl⟩ := okWide_slice Tryd.underlying59 hv
  obtain ⟨fuel, hf⟩ := h
  obtain ⟨A, c, l, hcs, h1, h2, h3, h4⟩ := open_rows (enc := encU) (good := InS) (size := 2) (by decide) encU_len Tryd.underlying59 (by kernel_rfl) (fun n cs y hl ht => span_elem hl ht) hf
  refine ⟨A, c, l, ?_, h1, h2, h3, h4⟩
  simpa [Value.cells] using hcs
end
end Go.Proofs.YtmodofbelpaelaaDoor
