/- Arguments opened: slices of provisions, of ints. -/
import Derived.Test.YtngckppnaflciaaDoorBlD
import Derived.Test.YtngckppnaflciaaDoorBootDoor
namespace Go.Proofs.YtngckppnaflciaaDoor
open Go.ChangeShapes Go.WideShapes Go.ChangeAt Go.RowKit Go.Joins Go.Deep

def encZ (x : Int) : List Value := [.int .i64 x]
theorem encZ_len (x : Int) : (encZ x).length = 1 := rfl

section
variable {H : Type} {ench : TypeId × Value → H} {w : World} {base : Nat} {spare : Nat → Bool} {held : Bool}
set_option maxRecDepth 100000 in
/-- an argument '[]int' -/
theorem open_intsZ {r : Reach} {b0 : Nat} {v : Value} {d : DataW H} {p : List MemPlace} (hv : Value.okWide Tryd.prog w r b0 23 v) (h : DataW.Trod ench Tryd.prog w base spare held 23 v d p) :
    ∃ A c, ∃ l : List Int, v = .slice A l.length c ∧ l.length ≤ c ∧ c ≤ maxLen ∧ RowAt encZ 1 w w.heap.size A l ∧ ∀ x ∈ l, In8 x := by
  obtain ⟨a, len, cap, rfl⟩ := okWide_slice Tryd.underlying23 hv
  obtain ⟨fuel, hf⟩ := h
  obtain ⟨A, c, l, hcs, h1, h2, h3, h4⟩ := open_rows (enc := encZ) (good := In8) (size := 1) (by decide) encZ_len Tryd.underlying23 (by kernel_rfl) (fun n cs y hl ht => by
    obtain ⟨a, ea, _, wa⟩ := DataW.trod_int Tryd.underlying3 ht
    exact ⟨a, ea, i64_bounds wa⟩) hf
  refine ⟨A, c, l, ?_, h1, h2, h3, h4⟩
  simpa [Value.cells] using hcs
set_option maxRecDepth 100000 in
/-- a nil slice has no place to spare -/
theorem nil_cap {t e : TypeId} {fuel : Nat} {A : Option Addr} {n c : Nat} {x : DataW H × List MemPlace} (ht : Tryd.prog.underlying t = some (.slice e)) (h : DataW.trod ench Tryd.prog w base spare held fuel t [.slice A n c] = some x) : A = none → c = 0 := by
  intro hA
  subst hA
  rcases open_slice ht h with ⟨e1, _⟩ | ⟨a, len, cap, m, n', D, Pl, e1, _⟩
  · injection e1 with e1; injection e1
  · injection e1 with e1; injection e1 with e1; cases e1
set_option maxRecDepth 100000 in
theorem pair_elem {t : TypeId} {f0 f1 : Field} {n : Nat} {cs : List Value} {y : DataW H × List MemPlace} (hs : Tryd.prog.underlying t = some (.struct #[f0, f1])) (h0 : f0.type = 3 ∧ f0.offset = 0) (h1 : f1.type = 3 ∧ f1.offset = 1) (hC : Tryd.prog.cellsOf 3 = 1)
    (hl : cs.length = 2) (h : DataW.trod ench Tryd.prog w base spare held n t cs = some y) : ∃ a b : Int, cs = [.int .i64 a, .int .i64 b] ∧ In8 a ∧ In8 b := by
  obtain ⟨ys, n', _, hx, _, hlen, hg⟩ := DataW.trod_struct hs h
  match cs, hl, ys, hlen with
  | [c0, c1], _, [y0, y1], _ =>
    have e0 := hg 0 f0 rfl
    have e1 := hg 1 f1 rfl
    rw [h0.2, h0.1, hC] at e0
    rw [h1.2, h1.1, hC] at e1
    have e0' : DataW.trod ench Tryd.prog w base spare held n' 3 [c0] = some y0 := by simpa using e0
    have e1' : DataW.trod ench Tryd.prog w base spare held n' 3 [c1] = some y1 := by simpa using e1
    obtain ⟨a, ha, _, wa⟩ := DataW.trod_int Tryd.underlying3 e0'
    obtain ⟨b, hb, _, wb⟩ := DataW.trod_int Tryd.underlying3 e1'
    simp only [List.cons.injEq, and_true] at ha hb
    subst ha hb
    exact ⟨a, b, rfl, i64_bounds wa, i64_bounds wb⟩
set_option maxRecDepth 100000 in
theorem span_elem {n : Nat} {cs : List Value} {y : DataW H × List MemPlace} (hl : cs.length = 2) (h : DataW.trod ench Tryd.prog w base spare held n 34 cs = some y) : ∃ a b : Int, cs = [.int .i64 a, .int .i64 b] ∧ In8 a ∧ In8 b :=
  pair_elem Tryd.underlying34 ⟨rfl, by kernel_rfl⟩ ⟨rfl, by kernel_rfl⟩ (by kernel_rfl) hl h
set_option maxRecDepth 100000 in
theorem frac_elem {n : Nat} {cs : List Value} {y : DataW H × List MemPlace} (hl : cs.length = 2) (h : DataW.trod ench Tryd.prog w base spare held n 36 cs = some y) : ∃ a b : Int, cs = [.int .i64 a, .int .i64 b] ∧ In8 a ∧ In8 b :=
  pair_elem Tryd.underlying36 ⟨rfl, by kernel_rfl⟩ ⟨rfl, by kernel_rfl⟩ (by kernel_rfl) hl h
set_option maxRecDepth 100000 in
theorem bracket_elem_of {f0 f1 : Field} {n : Nat} {cs : List Value} {y : DataW H × List MemPlace} (hs : Tryd.prog.underlying 97 = some (.struct #[f0, f1])) (h0 : f0.type = 36 ∧ f0.offset = 0) (h1 : f1.type = 36 ∧ f1.offset = 2) (hC : Tryd.prog.cellsOf 36 = 2)
    (hl : cs.length = 4) (h : DataW.trod ench Tryd.prog w base spare held n 97 cs = some y) : ∃ x : BI, cs = encR x ∧ In4 x := by
  obtain ⟨ys, n', _, hx, _, hlen, hg⟩ := DataW.trod_struct hs h
  match cs, hl, ys, hlen with
  | [c0, c1, c2, c3], _, [y0, y1], _ =>
    have e0 := hg 0 f0 rfl
    have e1 := hg 1 f1 rfl
    rw [h0.2, h0.1, hC] at e0
    rw [h1.2, h1.1, hC] at e1
    have e0' : DataW.trod ench Tryd.prog w base spare held n' 36 [c0, c1] = some y0 := by simpa using e0
    have e1' : DataW.trod ench Tryd.prog w base spare held n' 36 [c2, c3] = some y1 := by simpa using e1
    obtain ⟨a, b, ha, a1, a2⟩ := frac_elem rfl e0'
    obtain ⟨a', b', hb, b1, b2⟩ := frac_elem rfl e1'
    simp only [List.cons.injEq, and_true] at ha hb
    obtain ⟨rfl, rfl⟩ := ha
    obtain ⟨rfl, rfl⟩ := hb
    exact ⟨(a, b, a', b'), rfl, a1, a2, b1, b2⟩
set_option maxRecDepth 100000 in
theorem bracket_elem {n : Nat} {cs : List Value} {y : DataW H × List MemPlace} (hl : cs.length = 4) (h : DataW.trod ench Tryd.prog w base spare held n 97 cs = some y) : ∃ x : BI, cs = encR x ∧ In4 x :=
  bracket_elem_of Tryd.underlying97 ⟨rfl, by kernel_rfl⟩ ⟨rfl, by kernel_rfl⟩ (by kernel_rfl) hl h
set_option maxRecDepth 100000 in
theorem brackets_cells {n : Nat} {c0 : Value} {y : DataW H × List MemPlace} (h : DataW.trod ench Tryd.prog w base spare held n 37 [c0] = some y) : ∃ A c, ∃ l : List BI, c0 = .slice A l.length c ∧ l.length ≤ maxLen ∧ (A = none → c = 0) ∧ RowAt encR 4 w w.heap.size A l ∧ ∀ x ∈ l, In4 x := by
  obtain ⟨A, c, l, hcs, h1, h2, h3, h4⟩ := open_rows (enc := encR) (good := In4) (size := 4) (by decide) encR_len Tryd.underlying37 (by kernel_rfl) (fun n cs y hl ht => bracket_elem hl ht) h
  injection hcs with hcs
  subst hcs
  exact ⟨A, c, l, rfl, by omega, nil_cap Tryd.underlying37 h, h3, h4⟩
set_option maxRecDepth 100000 in
theorem round_elem_of {f0 f1 : Field} {n : Nat} {cs : List Value} {y : DataW H × List MemPlace} (hs : Tryd.prog.underlying 39 = some (.struct #[f0, f1])) (h0 : f0.type = 3 ∧ f0.offset = 0) (h1 : f1.type = 36 ∧ f1.offset = 1) (hC : Tryd.prog.cellsOf 3 = 1) (hF : Tryd.prog.cellsOf 36 = 2)
    (hl : cs.length = 3) (h : DataW.trod ench Tryd.prog w base spare held n 39 cs = some y) : ∃ m a b : Int, cs = [.int .i64 m, .int .i64 a, .int .i64 b] ∧ In8 a ∧ In8 b := by
  obtain ⟨ys, n', _, hx, _, hlen, hg⟩ := DataW.trod_struct hs h
  match cs, hl, ys, hlen with
  | [c0, c1, c2], _, [y0, y1], _ =>
    have e0 := hg 0 f0 rfl
    have e1 := hg 1 f1 rfl
    rw [h0.2, h0.1, hC] at e0
    rw [h1.2, h1.1, hF] at e1
    have e0' : DataW.trod ench Tryd.prog w base spare held n' 3 [c0] = some y0 := by simpa using e0
    have e1' : DataW.trod ench Tryd.prog w base spare held n' 36 [c1, c2] = some y1 := by simpa using e1
    obtain ⟨m, hm, _, _⟩ := DataW.trod_int Tryd.underlying3 e0'
    obtain ⟨a, b, ha, a1, a2⟩ := frac_elem rfl e1'
    simp only [List.cons.injEq, and_true] at ha hm
    obtain ⟨rfl, rfl⟩ := ha
    subst hm
    exact ⟨m, a, b, rfl, a1, a2⟩
set_option maxRecDepth 100000 in
theorem round_elem {n : Nat} {cs : List Value} {y : DataW H × List MemPlace} (hl : cs.length = 3) (h : DataW.trod ench Tryd.prog w base spare held n 39 cs = some y) : ∃ m a b : Int, cs = [.int .i64 m, .int .i64 a, .int .i64 b] ∧ In8 a ∧ In8 b :=
  round_elem_of Tryd.underlying39 ⟨rfl, by kernel_rfl⟩ ⟨rfl, by kernel_rfl⟩ (by kernel_rfl) (by kernel_rfl) hl h
set_option maxRecDepth 100000 in
theorem value_elem_of {f0 f1 f2 f3 f4 : Field} {n : Nat} {cs : List Value} {y : DataW H × List MemPlace} (hs : Tryd.prog.underlying 41 = some (.struct #[f0, f1, f2, f3, f4])) (h0 : f0.type = 3 ∧ f0.offset = 0) (h1 : f1.type = 36 ∧ f1.offset = 1) (h2 : f2.type = 37 ∧ f2.offset = 3) (h3 : f3.type = 9 ∧ f3.offset = 4) (h4 : f4.type = 39 ∧ f4.offset = 5)
    (hC : Tryd.prog.cellsOf 3 = 1) (hF : Tryd.prog.cellsOf 36 = 2) (hB : Tryd.prog.cellsOf 37 = 1) (hS : Tryd.prog.cellsOf 9 = 1) (hR : Tryd.prog.cellsOf 39 = 3)
    (hl : cs.length = 8) (h : DataW.trod ench Tryd.prog w base spare held n 41 cs = some y) : ∃ (k a b : Int) (A : Option Addr) (c : Nat) (l : List BI) (r : ByteArray) (m d e : Int), cs = [.int .i64 k, .int .i64 a, .int .i64 b, .slice A l.length c, .string r, .int .i64 m, .int .i64 d, .int .i64 e] ∧ In8 a ∧ In8 b ∧ In8 d ∧ In8 e ∧ l.length ≤ maxLen ∧ (A = none → c = 0) ∧ RowAt encR 4 w w.heap.size A l ∧ ∀ x ∈ l, In4 x := by
  obtain ⟨ys, n', _, hx, _, hlen, hg⟩ := DataW.trod_struct hs h
  match cs, hl, ys, hlen with
  | [c0, c1, c2, c3, c4, c5, c6, c7], _, [y0, y1, y2, y3, y4], _ =>
    have e0 := hg 0 f0 rfl
    have e1 := hg 1 f1 rfl
    have e2 := hg 2 f2 rfl
    have e3 := hg 3 f3 rfl
    have e4 := hg 4 f4 rfl
    rw [h0.2, h0.1, hC] at e0
    rw [h1.2, h1.1, hF] at e1
    rw [h2.2, h2.1, hB] at e2
    rw [h3.2, h3.1, hS] at e3
    rw [h4.2, h4.1, hR] at e4
    have e0' : DataW.trod ench Tryd.prog w base spare held n' 3 [c0] = some y0 := by simpa using e0
    have e1' : DataW.trod ench Tryd.prog w base spare held n' 36 [c1, c2] = some y1 := by simpa using e1
    have e2' : DataW.trod ench Tryd.prog w base spare held n' 37 [c3] = some y2 := by simpa using e2
    have e3' : DataW.trod ench Tryd.prog w base spare held n' 9 [c4] = some y3 := by simpa using e3
    have e4' : DataW.trod ench Tryd.prog w base spare held n' 39 [c5, c6, c7] = some y4 := by simpa using e4
    obtain ⟨k, hk, _, _⟩ := DataW.trod_int Tryd.underlying3 e0'
    obtain ⟨a, b, ha, a1, a2⟩ := frac_elem rfl e1'
    obtain ⟨A, c, l, rfl, q1, q2, q3, q4⟩ := brackets_cells e2'
    obtain ⟨r, hr, _, _⟩ := DataW.trod_string Tryd.underlying9 e3'
    obtain ⟨m, d, e, hm, m1, m2⟩ := round_elem rfl e4'
    simp only [List.cons.injEq, and_true] at ha hm hk hr
    obtain ⟨rfl, rfl⟩ := ha
    obtain ⟨rfl, rfl, rfl⟩ := hm
    subst hk hr
    exact ⟨k, a, b, A, c, l, r, m, d, e, rfl, a1, a2, m1, m2, q1, q2, q3, q4⟩
set_option maxRecDepth 100000 in
theorem value_elem {n : Nat} {cs : List Value} {y : DataW H × List MemPlace} (hl : cs.length = 8) (h : DataW.trod ench Tryd.prog w base spare held n 41 cs = some y) : ∃ (k a b : Int) (A : Option Addr) (c : Nat) (l : List BI) (r : ByteArray) (m d e : Int), cs = [.int .i64 k, .int .i64 a, .int .i64 b, .slice A l.length c, .string r, .int .i64 m, .int .i64 d, .int .i64 e] ∧ In8 a ∧ In8 b ∧ In8 d ∧ In8 e ∧ l.length ≤ maxLen ∧ (A = none → c = 0) ∧ RowAt encR 4 w w.heap.size A l ∧ ∀ x ∈ l, In4 x :=
  value_elem_of Tryd.underlying41 ⟨rfl, by kernel_rfl⟩ ⟨rfl, by kernel_rfl⟩ ⟨rfl, by kernel_rfl⟩ ⟨rfl, by kernel_rfl⟩ ⟨rfl, by kernel_rfl⟩ (by kernel_rfl) (by kernel_rfl) (by kernel_rfl) (by kernel_rfl) (by kernel_rfl) hl h
/-- what is known of an element of the argument -/
def GoodP (w : World) (x : Pl) : Prop := PvW x.1 ∧ PvAt w w.heap.size x.1 x.2.1 x.2.2
set_option maxRecDepth 100000 in
theorem prov_elem_of {f0 f1 f2 f3 f4 f5 f6 : Field} {n : Nat} {cs : List Value} {y : DataW H × List MemPlace} (hs : Tryd.prog.underlying 43 = some (.struct #[f0, f1, f2, f3, f4, f5, f6])) (h0 : f0.type = 9 ∧ f0.offset = 0) (h1 : f1.type = 9 ∧ f1.offset = 1) (h2 : f2.type = 34 ∧ f2.offset = 2) (h3 : f3.type = 3 ∧ f3.offset = 4) (h4 : f4.type = 3 ∧ f4.offset = 5) (h5 : f5.type = 9 ∧ f5.offset = 6) (h6 : f6.type = 41 ∧ f6.offset = 7)
    (hC : Tryd.prog.cellsOf 3 = 1) (hP : Tryd.prog.cellsOf 34 = 2) (hS : Tryd.prog.cellsOf 9 = 1) (hV : Tryd.prog.cellsOf 41 = 8)
    (hl : cs.length = 15) (h : DataW.trod ench Tryd.prog w base spare held n 43 cs = some y) : ∃ x : Pl, cs = encT x ∧ GoodP w x := by
  obtain ⟨ys, n', _, hx, _, hlen, hg⟩ := DataW.trod_struct hs h
  match cs, hl, ys, hlen with
  | [c0, c1, c2, c3, c4, c5, c6, c7, c8, c9, c10, c11, c12, c13, c14], _, [y0, y1, y2, y3, y4, y5, y6], _ =>
    have e0 := hg 0 f0 rfl
    have e1 := hg 1 f1 rfl
    have e2 := hg 2 f2 rfl
    have e3 := hg 3 f3 rfl
    have e4 := hg 4 f4 rfl
    have e5 := hg 5 f5 rfl
    have e6 := hg 6 f6 rfl
    rw [h0.2, h0.1, hS] at e0
    rw [h1.2, h1.1, hS] at e1
    rw [h2.2, h2.1, hP] at e2
    rw [h3.2, h3.1, hC] at e3
    rw [h4.2, h4.1, hC] at e4
    rw [h5.2, h5.1, hS] at e5
    rw [h6.2, h6.1, hV] at e6
    have e0' : DataW.trod ench Tryd.prog w base spare held n' 9 [c0] = some y0 := by simpa using e0
    have e1' : DataW.trod ench Tryd.prog w base spare held n' 9 [c1] = some y1 := by simpa using e1
    have e2' : DataW.trod ench Tryd.prog w base spare held n' 34 [c2, c3] = some y2 := by simpa using e2
    have e3' : DataW.trod ench Tryd.prog w base spare held n' 3 [c4] = some y3 := by simpa using e3
    have e4' : DataW.trod ench Tryd.prog w base spare held n' 3 [c5] = some y4 := by simpa using e4
    have e5' : DataW.trod ench Tryd.prog w base spare held n' 9 [c6] = some y5 := by simpa using e5
    have e6' : DataW.trod ench Tryd.prog w base spare held n' 41 [c7, c8, c9, c10, c11, c12, c13, c14] = some y6 := by simpa using e6
    obtain ⟨s0, g0, _, _⟩ := DataW.trod_string Tryd.underlying9 e0'
    obtain ⟨s1, g1, _, _⟩ := DataW.trod_string Tryd.underlying9 e1'
    obtain ⟨a, b, g2, _, _⟩ := span_elem rfl e2'
    obtain ⟨i3, g3, _, _⟩ := DataW.trod_int Tryd.underlying3 e3'
    obtain ⟨i4, g4, _, _⟩ := DataW.trod_int Tryd.underlying3 e4'
    obtain ⟨s5, g5, _, _⟩ := DataW.trod_string Tryd.underlying9 e5'
    obtain ⟨k, n2, d2, A, c, l, r, m, u, v, g6, q1, q2, q3, q4, q5, q6, q7, q8⟩ := value_elem rfl e6'
    simp only [List.cons.injEq, and_true] at g0 g1 g2 g3 g4 g5 g6
    obtain ⟨rfl, rfl⟩ := g2
    obtain ⟨rfl, rfl, rfl, rfl, rfl, rfl, rfl, rfl⟩ := g6
    subst g0 g1 g3 g4 g5
    exact ⟨(⟨s0, s1, a, b, i3, i4, s5, k, n2, d2, l, r, m, u, v⟩, A, c), rfl, ⟨q1, q2, q3, q4, q8, by unfold maxLen at q5; dsimp only; omega⟩, q7, q6⟩
set_option maxRecDepth 100000 in
/-- an argument '[]Prov' -/
theorem open_provs {r : Reach} {b0 : Nat} {v : Value} {d : DataW H} {p : List MemPlace} (hv : Value.okWide Tryd.prog w r b0 22 v) (h : DataW.Trod ench Tryd.prog w base spare held 22 v d p) :
    ∃ A c, ∃ l : List Pv, v = .slice A l.length c ∧ l.length ≤ maxLen ∧ ProvsAt w w.heap.size A l ∧ ∀ x ∈ l, PvW x := by
  obtain ⟨a, len, cap, rfl⟩ := okWide_slice Tryd.underlying22 hv
  obtain ⟨fuel, hf⟩ := h
  obtain ⟨A, c, l, hcs, h1, h2, h3, h4⟩ := open_rows (enc := encT) (good := GoodP w) (size := 15) (by decide) encT_len Tryd.underlying22 (by kernel_rfl) (fun n cs y hl ht => prov_elem_of Tryd.underlying43 ⟨rfl, by kernel_rfl⟩ ⟨rfl, by kernel_rfl⟩ ⟨rfl, by kernel_rfl⟩ ⟨rfl, by kernel_rfl⟩ ⟨rfl, by kernel_rfl⟩ ⟨rfl, by kernel_rfl⟩ ⟨rfl, by kernel_rfl⟩ (by kernel_rfl) (by kernel_rfl) (by kernel_rfl) (by kernel_rfl) hl ht) hf
  refine ⟨A, c, l.map (·.1), by rw [List.length_map]; simpa [Value.cells] using hcs, by rw [List.length_map]; omega, fun k p hk => ?_, fun p hp => ?_⟩
  · rw [List.getElem?_map] at hk
    obtain ⟨x, hx, rfl⟩ := Option.map_eq_some_iff.1 hk
    obtain ⟨b, off, q1, q2, q3⟩ := h3 k x hx
    exact ⟨b, off, x.2.1, x.2.2, q1, q2, q3, (h4 x (List.mem_of_getElem? hx)).2⟩
  · obtain ⟨x, hx, rfl⟩ := List.mem_map.1 hp
    exact (h4 x hx).1
end
end Go.Proofs.YtngckppnaflciaaDoor
