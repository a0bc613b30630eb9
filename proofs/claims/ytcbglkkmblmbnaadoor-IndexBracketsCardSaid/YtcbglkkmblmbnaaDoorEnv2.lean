/- The table of round's words, out of what the row lists; arguments opened: slices of whole numbers. -/
import Derived.Test.YtcbglkkmblmbnaaDoorEnv
import Derived.Test.YtcbglkkmblmbnaaDoorFirst2
namespace Go.Proofs.YtcbglkkmblmbnaaDoor
open Go.ChangeShapes Go.WideShapes Go.ChangeAt Go.RowKit Go.Joins Go.Deep

theorem laid_var {W : World} {laid : List (String × DataW Unit)} {ps : List MemPlace} (hl : DataW.LaidVars Tryd.prog W laid ps) {n : String} {d : DataW Unit} (hm : (n, d) ∈ laid) :
    ∃ g t cs fuel p, Tryd.prog.globalNamed n = some g ∧ (Tryd.prog.globals[g]?).map (·.type) = some t ∧ W.var? Tryd.prog n = some cs ∧ DataW.trod (fun _ => ()) Tryd.prog W 0 (fun _ => true) false fuel t cs.toList = some (d, p) := by
  induction laid generalizing ps with
  | nil => simp at hm
  | cons x r ih =>
    obtain ⟨n0, d0⟩ := x
    obtain ⟨g0, t0, cs0, f0, p, q, h1, h2, h3, h4, hq, rfl⟩ := hl
    rcases List.mem_cons.1 hm with e | hm
    · cases e; exact ⟨g0, t0, cs0, f0, p, h1, h2, h3, h4⟩
    · exact ih hq hm
theorem one_cell {cs : List Value} {i : Nat} {v : Value} (h : (cs.drop i).take 1 = [v]) : cs[i]? = some v := by
  have : ((cs.drop i).take 1)[0]? = some v := by rw [h]; rfl
  rw [List.getElem?_take, if_pos (by omega), List.getElem?_drop, Nat.add_zero] at this
  exact this
theorem bytes_eq {s : ByteArray} {l : List UInt8} (h : s.data.toList = l) : s = ⟨⟨l⟩⟩ := by
  cases s with | mk a => cases a with | mk b => simp at h; subst h; rfl

theorem words_of_laid {W : World} {laid : List (String × DataW Unit)} (h : laidMet Tryd.prog laid W) (hm : ("tithe/round.words", Rows.laid_tithe_round_words) ∈ laid) : Words W := by
  obtain ⟨ps, hl, _⟩ := h
  obtain ⟨g, t, cs, fuel, p, h1, h2, h3, h4⟩ := laid_var hl hm
  have e1 : Tryd.prog.globalNamed "tithe/round.words" = some 7 := by kernel_rfl
  have e2 : (Tryd.prog.globals[7]?).map (·.type) = some 90 := by kernel_rfl
  obtain rfl : g = 7 := Option.some.inj (h1.symm.trans e1)
  obtain rfl : t = 90 := Option.some.inj (h2.symm.trans e2)
  obtain ⟨xs, m, _, hx, _, hn, he⟩ := DataW.trod_array Tryd.underlying90 h4
  rw [cells9] at he
  simp only [Nat.mul_one] at he
  match xs, hn with
  | [y0, y1, y2, y3, y4, y5, y6], _ =>
    simp only [Prod.mk.injEq, Rows.laid_tithe_round_words, DataW.agg.injEq, List.map_cons, List.map_nil, List.cons.injEq, and_true] at hx
    obtain ⟨⟨d0, d1, d2, d3, d4, d5, d6⟩, _⟩ := hx
    have one : ∀ (i : Nat) (y : DataW Unit × List MemPlace) (l : List UInt8), DataW.trod (fun _ => ()) Tryd.prog W 0 (fun _ => true) false m 9 ((cs.toList.drop i).take 1) = some y → .lit (.string l) = y.1 → W.cell? ⟨7, i, none⟩ = some (.string ⟨⟨l⟩⟩) := by
      intro i y l ht hd
      obtain ⟨s, hs, rfl, _⟩ := DataW.trod_string Tryd.underlying9 ht
      simp only [DataW.lit.injEq, Lit.string.injEq] at hd
      rw [← bytes_eq hd.symm, World.var?_cell h1 h3 i, ← Array.getElem?_toList]
      exact one_cell hs
    intro i hi
    have h7 : i = 0 ∨ i = 1 ∨ i = 2 ∨ i = 3 ∨ i = 4 ∨ i = 5 ∨ i = 6 := by omega
    rcases h7 with rfl | rfl | rfl | rfl | rfl | rfl | rfl
    · exact one 0 y0 _ (he 0 (by omega)) d0
    · exact one 1 y1 _ (he 1 (by omega)) d1
    · exact one 2 y2 _ (he 2 (by omega)) d2
    · exact one 3 y3 _ (he 3 (by omega)) d3
    · exact one 4 y4 _ (he 4 (by omega)) d4
    · exact one 5 y5 _ (he 5 (by omega)) d5
    · exact one 6 y6 _ (he 6 (by omega)) d6

section
variable {H : Type} {ench : TypeId × Value → H} {w : World} {base : Nat} {spare : Nat → Bool} {held : Bool}
theorem int_elem {n : Nat} {cs : List Value} {y : DataW H × List MemPlace} (_ : cs.length = 1) (h : DataW.trod ench Tryd.prog w base spare held n 3 cs = some y) : ∃ x : Int, cs = encI x ∧ InI x := by
  obtain ⟨a, ea, _, wa⟩ := DataW.trod_int Tryd.underlying3 h
  exact ⟨a, ea, i64_bounds wa⟩
set_option maxRecDepth 100000 in
/-- an argument '[]int' -/
theorem open_intsA {r : Reach} {b0 : Nat} {v : Value} {d : DataW H} {p : List MemPlace} (hv : Value.okWide Tryd.prog w r b0 22 v) (h : DataW.Trod ench Tryd.prog w base spare held 22 v d p) :
    ∃ A c, ∃ l : List Int, v = .slice A l.length c ∧ l.length ≤ c ∧ c ≤ maxLen ∧ RowAt encI 1 w w.heap.size A l ∧ ∀ x ∈ l, InI x := by
  obtain ⟨a, len, cap, rfl⟩ := okWide_slice Tryd.underlying22 hv
  obtain ⟨fuel, hf⟩ := h
  obtain ⟨A, c, l, hcs, h1, h2, h3, h4⟩ := open_rows (enc := encI) (good := InI) (size := 1) (by decide) encI_len Tryd.underlying22 (by kernel_rfl) (fun n cs y hl ht => int_elem hl ht) hf
  refine ⟨A, c, l, ?_, h1, h2, h3, h4⟩
  simpa [Value.cells] using hcs
set_option maxRecDepth 100000 in
/-- a struct {int; struct {int; int}} by value -/
theorem open_nested {r : Reach} {b0 : Nat} {t : TypeId} {f0 f1 g0 g1 : Field} {v : Value} {d : DataW H} {p : List MemPlace} (hs : Tryd.prog.underlying t = some (.struct #[f0, f1])) (hC : Tryd.prog.cellsOf t = 3)
    (h0 : f0.type = 3 ∧ f0.offset = 0 ∧ Tryd.prog.cellsOf f0.type = 1) (h1 : f1.offset = 1 ∧ Tryd.prog.cellsOf f1.type = 2) (hs1 : Tryd.prog.underlying f1.type = some (.struct #[g0, g1])) (k0 : g0.type = 3 ∧ g0.offset = 0) (k1 : g1.type = 3 ∧ g1.offset = 1) (hc : Tryd.prog.cellsOf 3 = 1)
    (hv : Value.okWide Tryd.prog w r b0 t v) (h : DataW.Trod ench Tryd.prog w base spare held t v d p) : ∃ a b c : Int, v = .agg #[.int .i64 a, .int .i64 b, .int .i64 c] ∧ InI a ∧ InI b ∧ InI c := by
  obtain ⟨cs, rfl, hsz⟩ := okWide_struct hs hv
  obtain ⟨l⟩ := cs
  match l, hsz.trans hC with
  | [c0, c1, c2], _ =>
    obtain ⟨fuel, hf⟩ := h
    obtain ⟨xs, n, _, hx, _, hlen, hg⟩ := DataW.trod_struct hs hf
    match xs, hlen with
    | [y0, y1], _ =>
      have e0 := hg 0 f0 rfl
      have e1 := hg 1 f1 rfl
      rw [h0.2.1, h0.2.2, h0.1] at e0
      rw [h1.1, h1.2] at e1
      have e0' : DataW.trod ench Tryd.prog w base spare held n 3 [c0] = some y0 := by simpa [Value.cells] using e0
      have e1' : DataW.trod ench Tryd.prog w base spare held n f1.type [c1, c2] = some y1 := by simpa [Value.cells] using e1
      obtain ⟨a, ea, _, wa⟩ := DataW.trod_int Tryd.underlying3 e0'
      obtain ⟨zs, n', _, _, _, hlen', hg'⟩ := DataW.trod_struct hs1 e1'
      match zs, hlen' with
      | [z0, z1], _ =>
        have i0 := hg' 0 g0 rfl
        have i1 := hg' 1 g1 rfl
        rw [k0.1, k0.2, hc] at i0
        rw [k1.1, k1.2, hc] at i1
        have i0' : DataW.trod ench Tryd.prog w base spare held n' 3 [c1] = some z0 := by simpa using i0
        have i1' : DataW.trod ench Tryd.prog w base spare held n' 3 [c2] = some z1 := by simpa using i1
        obtain ⟨b, eb, _, wb⟩ := DataW.trod_int Tryd.underlying3 i0'
        obtain ⟨c, ec, _, wc⟩ := DataW.trod_int Tryd.underlying3 i1'
        simp only [List.cons.injEq, and_true] at ea eb ec
        subst ea eb ec
        exact ⟨a, b, c, rfl, i64_bounds wa, i64_bounds wb, i64_bounds wc⟩
set_option maxRecDepth 100000 in
theorem open_rounding {r : Reach} {b0 : Nat} {v : Value} {d : DataW H} {p : List MemPlace} (hv : Value.okWide Tryd.prog w r b0 32 v) (h : DataW.Trod ench Tryd.prog w base spare held 32 v d p) :
    ∃ a b c : Int, v = .agg #[.int .i64 a, .int .i64 b, .int .i64 c] ∧ InI a ∧ InI b ∧ InI c :=
  open_nested Tryd.underlying32 (by kernel_rfl) ⟨rfl, rfl, by kernel_rfl⟩ ⟨rfl, by kernel_rfl⟩ Tryd.underlying30 ⟨rfl, rfl⟩ ⟨rfl, rfl⟩ (by kernel_rfl) hv h
end
end Go.Proofs.YtcbglkkmblmbnaaDoor
