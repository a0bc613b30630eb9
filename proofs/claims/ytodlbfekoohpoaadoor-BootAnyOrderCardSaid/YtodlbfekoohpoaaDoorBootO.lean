/- Arguments opened: slices of ints, of steps, of calls. -/
import Derived.Test.YtodlbfekoohpoaaDoorBootDoor
import Derived.Test.YtodlbfekoohpoaaDoorBootQ
namespace Go.Proofs.YtodlbfekoohpoaaDoor
open Go.ChangeShapes Go.WideShapes Go.ChangeAt Go.RowKit Go.Joins Go.Deep

def In64 (x : Int) : Prop := -9223372036854775808 ≤ x ∧ x ≤ 9223372036854775807
theorem encZ_len (x : Int) : (encZ x).length = 1 := rfl
/-- a step's two cells: its base; where what it is worked out of lies -/
abbrev Hd := Int × (Option Addr × Nat × Nat)
def encH (x : Hd) : List Value := [.int .i64 x.1, .slice x.2.1 x.2.2.1 x.2.2.2]
theorem encH_len (x : Hd) : (encH x).length = 2 := rfl

section
variable {H : Type} {ench : TypeId × Value → H} {w : World} {base : Nat} {spare : Nat → Bool} {held : Bool}
theorem int_elemZ {n : Nat} {cs : List Value} {y : DataW H × List MemPlace} (_ : cs.length = 1) (h : DataW.trod ench Tryd.prog w base spare held n 3 cs = some y) : ∃ x : Int, cs = encZ x ∧ In64 x := by
  obtain ⟨a, ea, _, wa⟩ := DataW.trod_int Tryd.underlying3 h
  exact ⟨a, ea, i64_bounds wa⟩
theorem ints_cells {n : Nat} {cs : List Value} {y : DataW H × List MemPlace} (h : DataW.trod ench Tryd.prog w base spare held n 42 cs = some y) : ∃ A c, ∃ l : List Int, cs = [.slice A l.length c] ∧ l.length ≤ c ∧ c ≤ maxLen ∧ RowAt encZ 1 w w.heap.size A l ∧ ∀ x ∈ l, In64 x :=
  open_rows (enc := encZ) (good := In64) (size := 1) (by decide) encZ_len Tryd.underlying42 (by kernel_rfl) (fun n cs y hl ht => int_elemZ hl ht) h
set_option maxRecDepth 100000 in
/-- an argument '[]int' -/
theorem open_intsZ {r : Reach} {b0 : Nat} {v : Value} {d : DataW H} {p : List MemPlace} (hv : Value.okWide Tryd.prog w r b0 42 v) (h : DataW.Trod ench Tryd.prog w base spare held 42 v d p) :
    ∃ A c, ∃ l : List Int, v = .slice A l.length c ∧ l.length ≤ c ∧ c ≤ maxLen ∧ RowAt encZ 1 w w.heap.size A l ∧ ∀ x ∈ l, In64 x := by
  obtain ⟨a, len, cap, rfl⟩ := okWide_slice Tryd.underlying42 hv
  obtain ⟨fuel, hf⟩ := h
  obtain ⟨A, c, l, hcs, h1, h2, h3, h4⟩ := ints_cells hf
  refine ⟨A, c, l, ?_, h1, h2, h3, h4⟩
  simpa [Value.cells] using hcs
set_option maxRecDepth 100000 in
theorem sum_fields : ∃ f0 f1 : Field, Tryd.prog.underlying 44 = some (.struct #[f0, f1]) ∧ f0.type = 3 ∧ f1.type = 42 ∧ oneCellFields Tryd.prog #[f0, f1] = true := ⟨_, _, Tryd.underlying44, rfl, rfl, by kernel_rfl⟩
/-- what is known of a step's cells -/
def GoodH (w : World) (x : Hd) : Prop := ∃ l : List Int, l.length = x.2.2.1 ∧ RowAt encZ 1 w w.heap.size x.2.1 l ∧ ∀ f ∈ l, In64 f
set_option maxRecDepth 100000 in
theorem sum_elem {n : Nat} {cs : List Value} {y : DataW H × List MemPlace} (hl : cs.length = 2) (h : DataW.trod ench Tryd.prog w base spare held n 44 cs = some y) : ∃ x : Hd, cs = encH x ∧ GoodH w x := by
  obtain ⟨f0, f1, hs, t0, t1, hone⟩ := sum_fields
  obtain ⟨ys, n', _, hx, _, hlen, hg⟩ := DataW.trod_struct hs h
  obtain ⟨o0, k0⟩ := hone_of hone 0 f0 rfl
  obtain ⟨o1, k1⟩ := hone_of hone 1 f1 rfl
  match cs, hl, ys, hlen with
  | [c0, c1], _, [y0, y1], _ =>
    have h0 : DataW.trod ench Tryd.prog w base spare held n' f0.type [c0] = some y0 := by simpa [o0, k0] using hg 0 f0 rfl
    have h1 : DataW.trod ench Tryd.prog w base spare held n' f1.type [c1] = some y1 := by simpa [o1, k1] using hg 1 f1 rfl
    rw [t0] at h0
    rw [t1] at h1
    obtain ⟨a, ea, _, _⟩ := DataW.trod_int Tryd.underlying3 h0
    obtain ⟨A, c, l, e1, _, _, r1, i1⟩ := ints_cells h1
    simp only [List.cons.injEq, and_true] at ea e1
    subst ea e1
    exact ⟨⟨a, A, l.length, c⟩, rfl, l, rfl, r1, i1⟩
theorem sums_of {l : List Hd} (h : ∀ x ∈ l, GoodH w x) : ∃ S : List Sm, S.length = l.length ∧ (∀ s ∈ S, ∀ f ∈ s.2, In64 f) ∧ ∀ (k : Nat) (s : Sm), S[k]? = some s → ∃ x, l[k]? = some x ∧ x.1 = s.1 ∧ x.2.2.1 = s.2.length ∧ RowAt encZ 1 w w.heap.size x.2.1 s.2 := by
  induction l with
  | nil => exact ⟨[], rfl, fun s h => (by simp at h), fun k s h => (by simp at h)⟩
  | cons x r ih =>
    obtain ⟨S, h1, h2, h3⟩ := ih (fun y hy => h y (List.mem_cons_of_mem _ hy))
    obtain ⟨f, e1, e2, e3⟩ := h x (List.mem_cons_self ..)
    refine ⟨(x.1, f) :: S, by rw [List.length_cons, List.length_cons, h1], fun s hs => ?_, fun k s hk => ?_⟩
    · rcases List.mem_cons.1 hs with rfl | hs
      · exact e3
      · exact h2 s hs
    · cases k with
      | zero =>
        simp only [List.getElem?_cons_zero, Option.some.injEq] at hk
        subst hk
        exact ⟨x, rfl, rfl, e1.symm, e2⟩
      | succ k => exact h3 k s hk
set_option maxRecDepth 100000 in
/-- an argument '[]Sum' -/
theorem open_sums {r : Reach} {b0 : Nat} {v : Value} {d : DataW H} {p : List MemPlace} (hv : Value.okWide Tryd.prog w r b0 41 v) (h : DataW.Trod ench Tryd.prog w base spare held 41 v d p) :
    ∃ A c, ∃ S : List Sm, v = .slice A S.length c ∧ S.length ≤ maxLen ∧ SumsAt w w.heap.size A S ∧ ∀ s ∈ S, ∀ f ∈ s.2, In64 f := by
  obtain ⟨a, len, cap, rfl⟩ := okWide_slice Tryd.underlying41 hv
  obtain ⟨fuel, hf⟩ := h
  obtain ⟨A, c, l, hcs, h1, h2, h3, h4⟩ := open_rows (enc := encH) (good := GoodH w) (size := 2) (by decide) encH_len Tryd.underlying41 (by kernel_rfl) (fun n cs y hl ht => sum_elem hl ht) hf
  obtain ⟨S, s1, s2, s3⟩ := sums_of h4
  refine ⟨A, c, S, by rw [s1]; simpa [Value.cells] using hcs, by omega, fun k s hk => ?_, s2⟩
  obtain ⟨x, hx, e1, e2, e3⟩ := s3 k s hk
  obtain ⟨b, off, rfl, hb, hc⟩ := h3 k x hx
  exact ⟨b, off, x.2.1, x.2.2.2, rfl, hb, by rw [← e1]; exact hc 0 _ rfl, by rw [← e2]; exact hc 1 _ rfl, e3⟩

end
end Go.Proofs.YtodlbfekoohpoaaDoor
