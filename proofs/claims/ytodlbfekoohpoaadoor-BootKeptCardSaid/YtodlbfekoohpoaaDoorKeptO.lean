/- Arguments opened: slices of calls. -/
import Derived.Test.YtodlbfekoohpoaaDoorBootDoor
import Derived.Test.YtodlbfekoohpoaaDoorKeptA
namespace Go.Proofs.YtodlbfekoohpoaaDoor
open Go.ChangeShapes Go.WideShapes Go.ChangeAt Go.RowKit Go.Joins Go.Deep

section
variable {H : Type} {ench : TypeId × Value → H} {w : World} {base : Nat} {spare : Nat → Bool} {held : Bool}
set_option maxRecDepth 100000 in
theorem op_fields : ∃ f0 f1 f2 f3 : Field, Tryd.prog.underlying 27 = some (.struct #[f0, f1, f2, f3]) ∧ f0.type = 3 ∧ f1.type = 3 ∧ f2.type = 9 ∧ f3.type = 4 ∧ oneCellFields Tryd.prog #[f0, f1, f2, f3] = true := ⟨_, _, _, _, Tryd.underlying27, rfl, rfl, rfl, rfl, by kernel_rfl⟩
set_option maxRecDepth 100000 in
theorem op_elem {n : Nat} {cs : List Value} {y : DataW H × List MemPlace} (hl : cs.length = 4) (h : DataW.trod ench Tryd.prog w base spare held n 27 cs = some y) : ∃ x : Op4, cs = encO x ∧ x.2.2.1.size ≤ maxLen := by
  obtain ⟨f0, f1, f2, f3, hs, t0, t1, t2, t3, hone⟩ := op_fields
  obtain ⟨ys, n', _, hx, _, hlen, hg⟩ := DataW.trod_struct hs h
  obtain ⟨o0, k0⟩ := hone_of hone 0 f0 rfl
  obtain ⟨o1, k1⟩ := hone_of hone 1 f1 rfl
  obtain ⟨o2, k2⟩ := hone_of hone 2 f2 rfl
  obtain ⟨o3, k3⟩ := hone_of hone 3 f3 rfl
  match cs, hl, ys, hlen with
  | [c0, c1, c2, c3], _, [y0, y1, y2, y3], _ =>
    have h0 : DataW.trod ench Tryd.prog w base spare held n' f0.type [c0] = some y0 := by simpa [o0, k0] using hg 0 f0 rfl
    have h1 : DataW.trod ench Tryd.prog w base spare held n' f1.type [c1] = some y1 := by simpa [o1, k1] using hg 1 f1 rfl
    have h2 : DataW.trod ench Tryd.prog w base spare held n' f2.type [c2] = some y2 := by simpa [o2, k2] using hg 2 f2 rfl
    have h3 : DataW.trod ench Tryd.prog w base spare held n' f3.type [c3] = some y3 := by simpa [o3, k3] using hg 3 f3 rfl
    rw [t0] at h0
    rw [t1] at h1
    rw [t2] at h2
    rw [t3] at h3
    obtain ⟨a, ea, _, _⟩ := DataW.trod_int Tryd.underlying3 h0
    obtain ⟨b, eb, _, _⟩ := DataW.trod_int Tryd.underlying3 h1
    obtain ⟨c, ec, _, wc⟩ := DataW.trod_string Tryd.underlying9 h2
    obtain ⟨d, ed, _⟩ := DataW.trod_bool Tryd.underlying4 h3
    simp only [List.cons.injEq, and_true] at ea eb ec ed
    subst ea eb ec ed
    exact ⟨⟨a, b, c, d⟩, rfl, wc⟩
set_option maxRecDepth 100000 in
/-- an argument '[]Op' -/
theorem open_ops {r : Reach} {b0 : Nat} {v : Value} {d : DataW H} {p : List MemPlace} (hv : Value.okWide Tryd.prog w r b0 22 v) (h : DataW.Trod ench Tryd.prog w base spare held 22 v d p) :
    ∃ A c, ∃ l : List Op4, v = .slice A l.length c ∧ l.length ≤ maxLen ∧ RowAt encO 4 w w.heap.size A l ∧ ∀ x ∈ l, x.2.2.1.size ≤ maxLen := by
  obtain ⟨a, len, cap, rfl⟩ := okWide_slice Tryd.underlying22 hv
  obtain ⟨fuel, hf⟩ := h
  obtain ⟨A, c, l, hcs, h1, h2, h3, h4⟩ := open_rows (enc := encO) (good := fun x => x.2.2.1.size ≤ maxLen) (size := 4) (by decide) encO_len Tryd.underlying22 (by kernel_rfl) (fun n cs y hl ht => op_elem hl ht) hf
  exact ⟨A, c, l, by simpa [Value.cells] using hcs, by omega, h3, h4⟩
end
end Go.Proofs.YtodlbfekoohpoaaDoor
