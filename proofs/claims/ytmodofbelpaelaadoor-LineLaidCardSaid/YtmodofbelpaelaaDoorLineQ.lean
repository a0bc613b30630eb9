/- Arguments opened: slices of pieces. -/
import Derived.Test.YtmodofbelpaelaaDoorEnv
import Derived.Test.YtmodofbelpaelaaDoorLineA
namespace Go.Proofs.YtmodofbelpaelaaDoor
open Go.ChangeShapes Go.WideShapes Go.ChangeAt Go.RowKit Go.Joins Go.Deep

def In6 (x : Int) : Prop := -9223372036854775808 ≤ x ∧ x ≤ 9223372036854775807
def InP (p : Pc Int) : Prop := In6 p.f ∧ In6 p.t ∧ In6 p.v

section
variable {H : Type} {ench : TypeId × Value → H} {w : World} {base : Nat} {spare : Nat → Bool} {held : Bool}
set_option maxRecDepth 100000 in
theorem piece_fields : ∃ f0 f1 f2 : Field, Tryd.prog.underlying 118 = some (.struct #[f0, f1, f2]) ∧ f0.type = 3 ∧ f1.type = 3 ∧ f2.type = 3 ∧ oneCellFields Tryd.prog #[f0, f1, f2] = true := ⟨_, _, _, Tryd.underlying118, rfl, rfl, rfl, by kernel_rfl⟩
set_option maxRecDepth 100000 in
theorem piece_elem {n : Nat} {cs : List Value} {y : DataW H × List MemPlace} (hl : cs.length = 3) (h : DataW.trod ench Tryd.prog w base spare held n 118 cs = some y) : ∃ x : Pc Int, cs = encP x ∧ InP x := by
  obtain ⟨f0, f1, f2, hs, t0, t1, t2, hone⟩ := piece_fields
  obtain ⟨ys, n', _, hx, _, hlen, hg⟩ := DataW.trod_struct hs h
  obtain ⟨o0, k0⟩ := hone_of hone 0 f0 rfl
  obtain ⟨o1, k1⟩ := hone_of hone 1 f1 rfl
  obtain ⟨o2, k2⟩ := hone_of hone 2 f2 rfl
  match cs, hl, ys, hlen with
  | [c0, c1, c2], _, [y0, y1, y2], _ =>
    have h0 : DataW.trod ench Tryd.prog w base spare held n' f0.type [c0] = some y0 := by simpa [o0, k0] using hg 0 f0 rfl
    have h1 : DataW.trod ench Tryd.prog w base spare held n' f1.type [c1] = some y1 := by simpa [o1, k1] using hg 1 f1 rfl
    have h2 : DataW.trod ench Tryd.prog w base spare held n' f2.type [c2] = some y2 := by simpa [o2, k2] using hg 2 f2 rfl
    rw [t0] at h0
    rw [t1] at h1
    rw [t2] at h2
    obtain ⟨a, ea, _, wa⟩ := DataW.trod_int Tryd.underlying3 h0
    obtain ⟨b, eb, _, wb⟩ := DataW.trod_int Tryd.underlying3 h1
    obtain ⟨c, ec, _, wc⟩ := DataW.trod_int Tryd.underlying3 h2
    simp only [List.cons.injEq, and_true] at ea eb ec
    subst ea eb ec
    exact ⟨⟨a, b, c⟩, rfl, i64_bounds wa, i64_bounds wb, i64_bounds wc⟩
set_option maxRecDepth 100000 in
/-- an argument '[]Piece' -/
theorem open_pieces {r : Reach} {b0 : Nat} {v : Value} {d : DataW H} {p : List MemPlace} (hv : Value.okWide Tryd.prog w r b0 58 v) (h : DataW.Trod ench Tryd.prog w base spare held 58 v d p) :
    ∃ A c, ∃ l : List (Pc Int), v = .slice A l.length c ∧ l.length ≤ c ∧ c ≤ maxLen ∧ RowAt encP 3 w w.heap.size A l ∧ ∀ x ∈ l, InP x := by
  obtain ⟨a, len, cap, rfl⟩ := okWide_slice Tryd.underlying58 hv
  obtain ⟨fuel, hf⟩ := h
  obtain ⟨A, c, l, hcs, h1, h2, h3, h4⟩ := open_rows (enc := encP) (good := InP) (size := 3) (by decide) encP_len Tryd.underlying58 (by kernel_rfl) (fun n cs y hl ht => piece_elem hl ht) hf
  refine ⟨A, c, l, ?_, h1, h2, h3, h4⟩
  simpa [Value.cells] using hcs
end
end Go.Proofs.YtmodofbelpaelaaDoor
