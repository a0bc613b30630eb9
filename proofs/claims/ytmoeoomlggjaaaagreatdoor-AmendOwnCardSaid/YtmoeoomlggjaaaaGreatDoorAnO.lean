/- Arguments opened: slices of changes, of items. -/
import Derived.Test.YtmoeoomlggjaaaaGreatDoorAnD
import Derived.Test.YtmoeoomlggjaaaaGreatDoorBootDoor
namespace Go.Proofs.YtmoeoomlggjaaaaGreatDoor
open Go.ChangeShapes Go.WideShapes Go.ChangeAt Go.RowKit Go.Joins Go.Deep

section
variable {H : Type} {ench : TypeId × Value → H} {w : World} {base : Nat} {spare : Nat → Bool} {held : Bool}
set_option maxRecDepth 100000 in
theorem pair_elem {t : TypeId} {f0 f1 : Field} {n : Nat} {cs : List Value} {y : DataW H × List MemPlace} (hs : Tryz.prog.underlying t = some (.struct #[f0, f1])) (h0 : f0.type = 3 ∧ f0.offset = 0) (h1 : f1.type = 3 ∧ f1.offset = 1) (hC : Tryz.prog.cellsOf 3 = 1)
    (hl : cs.length = 2) (h : DataW.trod ench Tryz.prog w base spare held n t cs = some y) : ∃ a b : Int, cs = [.int .i64 a, .int .i64 b] ∧ In8 a ∧ In8 b := by
  obtain ⟨ys, n', _, hx, _, hlen, hg⟩ := DataW.trod_struct hs h
  match cs, hl, ys, hlen with
  | [c0, c1], _, [y0, y1], _ =>
    have e0 := hg 0 f0 rfl
    have e1 := hg 1 f1 rfl
    rw [h0.2, h0.1, hC] at e0
    rw [h1.2, h1.1, hC] at e1
    have e0' : DataW.trod ench Tryz.prog w base spare held n' 3 [c0] = some y0 := by simpa using e0
    have e1' : DataW.trod ench Tryz.prog w base spare held n' 3 [c1] = some y1 := by simpa using e1
    obtain ⟨a, ha, _, wa⟩ := DataW.trod_int Tryz.underlying3 e0'
    obtain ⟨b, hb, _, wb⟩ := DataW.trod_int Tryz.underlying3 e1'
    simp only [List.cons.injEq, and_true] at ha hb
    subst ha hb
    exact ⟨a, b, rfl, i64_bounds wa, i64_bounds wb⟩
set_option maxRecDepth 100000 in
theorem frac_elem {n : Nat} {cs : List Value} {y : DataW H × List MemPlace} (hl : cs.length = 2) (h : DataW.trod ench Tryz.prog w base spare held n 39 cs = some y) : ∃ a b : Int, cs = [.int .i64 a, .int .i64 b] ∧ In8 a ∧ In8 b :=
  pair_elem Tryz.underlying39 ⟨rfl, by kernel_rfl⟩ ⟨rfl, by kernel_rfl⟩ (by kernel_rfl) hl h
set_option maxRecDepth 100000 in
theorem item_elem_of {f0 f1 : Field} {n : Nat} {cs : List Value} {y : DataW H × List MemPlace} (hs : Tryz.prog.underlying 53 = some (.struct #[f0, f1])) (h0 : f0.type = 9 ∧ f0.offset = 0) (h1 : f1.type = 39 ∧ f1.offset = 1) (hS : Tryz.prog.cellsOf 9 = 1) (hF : Tryz.prog.cellsOf 39 = 2)
    (hl : cs.length = 3) (h : DataW.trod ench Tryz.prog w base spare held n 53 cs = some y) : ∃ x : It, cs = itL x ∧ InI x := by
  obtain ⟨ys, n', _, hx, _, hlen, hg⟩ := DataW.trod_struct hs h
  match cs, hl, ys, hlen with
  | [c0, c1, c2], _, [y0, y1], _ =>
    have e0 := hg 0 f0 rfl
    have e1 := hg 1 f1 rfl
    rw [h0.2, h0.1, hS] at e0
    rw [h1.2, h1.1, hF] at e1
    have e0' : DataW.trod ench Tryz.prog w base spare held n' 9 [c0] = some y0 := by simpa using e0
    have e1' : DataW.trod ench Tryz.prog w base spare held n' 39 [c1, c2] = some y1 := by simpa using e1
    obtain ⟨s, hq, _, _⟩ := DataW.trod_string Tryz.underlying9 e0'
    obtain ⟨a, b, ha, a1, a2⟩ := frac_elem rfl e1'
    simp only [List.cons.injEq, and_true] at ha hq
    obtain ⟨rfl, rfl⟩ := ha
    subst hq
    exact ⟨⟨s, a, b⟩, rfl, a1, a2⟩
set_option maxRecDepth 100000 in
theorem change_elem_of {f0 f1 f2 : Field} {n : Nat} {cs : List Value} {y : DataW H × List MemPlace} (hs : Tryz.prog.underlying 41 = some (.struct #[f0, f1, f2])) (h0 : f0.type = 9 ∧ f0.offset = 0) (h1 : f1.type = 4 ∧ f1.offset = 1) (h2 : f2.type = 39 ∧ f2.offset = 2) (hS : Tryz.prog.cellsOf 9 = 1) (hB : Tryz.prog.cellsOf 4 = 1) (hF : Tryz.prog.cellsOf 39 = 2)
    (hl : cs.length = 4) (h : DataW.trod ench Tryz.prog w base spare held n 41 cs = some y) : ∃ x : Ch, cs = chL x ∧ InC x := by
  obtain ⟨ys, n', _, hx, _, hlen, hg⟩ := DataW.trod_struct hs h
  match cs, hl, ys, hlen with
  | [c0, c1, c2, c3], _, [y0, y1, y2], _ =>
    have e0 := hg 0 f0 rfl
    have e1 := hg 1 f1 rfl
    have e2 := hg 2 f2 rfl
    rw [h0.2, h0.1, hS] at e0
    rw [h1.2, h1.1, hB] at e1
    rw [h2.2, h2.1, hF] at e2
    have e0' : DataW.trod ench Tryz.prog w base spare held n' 9 [c0] = some y0 := by simpa using e0
    have e1' : DataW.trod ench Tryz.prog w base spare held n' 4 [c1] = some y1 := by simpa using e1
    have e2' : DataW.trod ench Tryz.prog w base spare held n' 39 [c2, c3] = some y2 := by simpa using e2
    obtain ⟨s, hq, _, _⟩ := DataW.trod_string Tryz.underlying9 e0'
    obtain ⟨k, hk, _⟩ := DataW.trod_bool Tryz.underlying4 e1'
    obtain ⟨a, b, ha, a1, a2⟩ := frac_elem rfl e2'
    simp only [List.cons.injEq, and_true] at ha hq hk
    obtain ⟨rfl, rfl⟩ := ha
    subst hq hk
    exact ⟨⟨s, k, a, b⟩, rfl, a1, a2⟩
set_option maxRecDepth 100000 in
/-- an argument '[]Item' -/
theorem open_items {r : Reach} {b0 : Nat} {v : Value} {d : DataW H} {p : List MemPlace} (hv : Value.okWide Tryz.prog w r b0 22 v) (h : DataW.Trod ench Tryz.prog w base spare held 22 v d p) :
    ∃ A c, ∃ l : List It, v = .slice A l.length c ∧ l.length ≤ c ∧ c ≤ maxLen ∧ RowAt itL 3 w w.heap.size A l ∧ ∀ x ∈ l, InI x := by
  obtain ⟨a, len, cap, rfl⟩ := okWide_slice Tryz.underlying22 hv
  obtain ⟨fuel, hf⟩ := h
  obtain ⟨A, c, l, hcs, h1, h2, h3, h4⟩ := open_rows (enc := itL) (good := InI) (size := 3) (by decide) itL_len Tryz.underlying22 (by kernel_rfl) (fun n cs y hl ht => item_elem_of Tryz.underlying53 ⟨rfl, by kernel_rfl⟩ ⟨rfl, by kernel_rfl⟩ (by kernel_rfl) (by kernel_rfl) hl ht) hf
  refine ⟨A, c, l, ?_, h1, h2, h3, h4⟩
  simpa [Value.cells] using hcs
set_option maxRecDepth 100000 in
/-- an argument '[]Change' -/
theorem open_changes {r : Reach} {b0 : Nat} {v : Value} {d : DataW H} {p : List MemPlace} (hv : Value.okWide Tryz.prog w r b0 23 v) (h : DataW.Trod ench Tryz.prog w base spare held 23 v d p) :
    ∃ A c, ∃ l : List Ch, v = .slice A l.length c ∧ l.length ≤ c ∧ c ≤ maxLen ∧ RowAt chL 4 w w.heap.size A l ∧ ∀ x ∈ l, InC x := by
  obtain ⟨a, len, cap, rfl⟩ := okWide_slice Tryz.underlying23 hv
  obtain ⟨fuel, hf⟩ := h
  obtain ⟨A, c, l, hcs, h1, h2, h3, h4⟩ := open_rows (enc := chL) (good := InC) (size := 4) (by decide) chL_len Tryz.underlying23 (by kernel_rfl) (fun n cs y hl ht => change_elem_of Tryz.underlying41 ⟨rfl, by kernel_rfl⟩ ⟨rfl, by kernel_rfl⟩ ⟨rfl, by kernel_rfl⟩ (by kernel_rfl) (by kernel_rfl) (by kernel_rfl) hl ht) hf
  refine ⟨A, c, l, ?_, h1, h2, h3, h4⟩
  simpa [Value.cells] using hcs
end
end Go.Proofs.YtmoeoomlggjaaaaGreatDoor
