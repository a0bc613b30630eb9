/- BootEach's walk: the two drawn regions' operations, named; a step of a drawn region. -/
import Derived.Test.YtodlbfekoohpoaaDoorEachE
namespace Go.Proofs.YtodlbfekoohpoaaDoor
open Go.RowKit Go.Shelf

section
variable {P : Program} {ops : Array Oper} {Q : Exit → Act → World → Prop} {md : Region.Mode} {S : World → Prop}
theorem tkY {i : Nat} {oi : Oper} {v : Value} {fuel : Nat} {listed : Array Bool} {a : Act} {w : World} (hi : ops[i]? = some oi)
    (hs : (Region.noSelect ops && (Region.free md ops listed i && (Region.ready md ops listed).contains i)) = true)
    (hQ : ∀ c a w, Q (.panic c) (a.put oi.dst v) w → Q (.panic c) a w) (hw : Region.wanted oi (yielded ops a.tmps) = true) (hy : ∀ w, S w → (execOp a.eval oi).run P w = .ok (.value v) w) (hS : S w)
    (h : wpAnyH P md ops Q S fuel (listed.setIfInBounds i true) (a.put oi.dst v) w) : wpAnyH P md ops Q S (fuel + 1) listed a w := by
  simp only [Bool.and_eq_true] at hs
  exact wpAnyH_take hi hs.1 hs.2.1 hs.2.2 hQ (.inl ⟨hw, hy⟩) hS h
theorem tkN {i : Nat} {oi : Oper} {fuel : Nat} {listed : Array Bool} {a : Act} {w : World} (hi : ops[i]? = some oi)
    (hs : (Region.noSelect ops && (Region.free md ops listed i && (Region.ready md ops listed).contains i)) = true)
    (hQ : ∀ c a w, Q (.panic c) (a.put oi.dst undef) w → Q (.panic c) a w) (hw : Region.wanted oi (yielded ops a.tmps) = false) (hS : S w)
    (h : wpAnyH P md ops Q S fuel (listed.setIfInBounds i true) (a.put oi.dst undef) w) : wpAnyH P md ops Q S (fuel + 1) listed a w := by
  simp only [Bool.and_eq_true] at hs
  exact wpAnyH_take hi hs.1 hs.2.1 hs.2.2 hQ (.inr ⟨hw, rfl⟩) hS h
end
theorem s1 {α : Type} (l : List α) (i : Nat) (x : α) : l.toArray.setIfInBounds i x = (l.set i x).toArray := List.setIfInBounds_toArray ..
theorem s2 {α : Type} (x y : α) (l : List α) : (x :: l).set 0 y = y :: l := rfl
theorem s3 {α : Type} (x y : α) (l : List α) (n : Nat) : (x :: l).set (n + 1) y = x :: l.set n y := rfl
def q0 : Oper := { dst := some 39, op := Go.Op.load 3 (Go.Operand.tmp 10), type := 3, pos := "law.go:303", after := #[], guard := none }
def q1 : Oper := { dst := some 40, op := Go.Op.load 56 (Go.Operand.tmp 6), type := 56, pos := "law.go:303", after := #[], guard := none }
def q2 : Oper := { dst := some 41, op := Go.Op.nilCheck (Go.Operand.tmp 40), type := 0, pos := "law.go:303", after := #[{ on := 1, ground := Go.Ground.data }], guard := none }
def q3 : Oper := { dst := some 42, op := Go.Op.fieldAddr 65 (Go.Operand.tmp 41) 2, type := 0, pos := "law.go:303", after := #[{ on := 2, ground := Go.Ground.data }], guard := none }
def q4 : Oper := { dst := some 43, op := Go.Op.load 62 (Go.Operand.tmp 42), type := 62, pos := "law.go:303", after := #[{ on := 3, ground := Go.Ground.data }], guard := none }
def q5 : Oper := { dst := some 44, op := Go.Op.nilCheck (Go.Operand.tmp 43), type := 0, pos := "law.go:303", after := #[{ on := 4, ground := Go.Ground.data }], guard := none }
def q6 : Oper := { dst := some 45, op := Go.Op.fieldAddr 69 (Go.Operand.tmp 44) 0, type := 0, pos := "law.go:303", after := #[{ on := 5, ground := Go.Ground.data }], guard := none }
def q7 : Oper := { dst := some 46, op := Go.Op.load 28 (Go.Operand.tmp 45), type := 28, pos := "law.go:303", after := #[{ on := 6, ground := Go.Ground.data }], guard := none }
def q8 : Oper := { dst := some 47, op := Go.Op.call { callee := Go.Callee.builtin Go.Builtin.len, args := #[Go.Operand.tmp 46], argTypes := #[28] }, type := 3, pos := "law.go:303", after := #[{ on := 7, ground := Go.Ground.data }], guard := none }
def q9 : Oper := { dst := some 48, op := Go.Op.binOp Go.BinOp.geq 3 (Go.Operand.tmp 39) (Go.Operand.tmp 47) 3, type := 4, pos := "law.go:303", after := #[{ on := 0, ground := Go.Ground.data }, { on := 8, ground := Go.Ground.data }], guard := none }
def q10 : Oper := { dst := some 49, op := Go.Op.move (Go.Operand.tmp 48), type := 4, pos := "law.go:303", after := #[{ on := 9, ground := Go.Ground.data }], guard := none }
def q11 : Oper := { dst := some 50, op := Go.Op.move (Go.Operand.tmp 11), type := 3, pos := "law.go:303", after := #[{ on := 10, ground := Go.Ground.guard }], guard := some (10, false) }
def q12 : Oper := { dst := some 51, op := Go.Op.load 3 (Go.Operand.tmp 10), type := 3, pos := "law.go:303", after := #[{ on := 10, ground := Go.Ground.guard }], guard := some (10, false) }
def q13 : Oper := { dst := some 52, op := Go.Op.binOp Go.BinOp.neq 3 (Go.Operand.tmp 50) (Go.Operand.tmp 51) 3, type := 4, pos := "law.go:303", after := #[{ on := 11, ground := Go.Ground.data }, { on := 12, ground := Go.Ground.data }, { on := 10, ground := Go.Ground.guard }], guard := some (10, false) }
def q14 : Oper := { dst := some 53, op := Go.Op.pick (Go.Operand.tmp 49) (Go.Operand.const (Go.Value.bool true)) (Go.Operand.tmp 52), type := 4, pos := "law.go:303", after := #[{ on := 10, ground := Go.Ground.data }, { on := 13, ground := Go.Ground.data }], guard := none }
def q15 : Oper := { dst := some 54, op := Go.Op.move (Go.Operand.tmp 53), type := 4, pos := "law.go:303", after := #[{ on := 14, ground := Go.Ground.data }, { on := 10, ground := Go.Ground.chain }], guard := none }
def q16 : Oper := { dst := some 55, op := Go.Op.fieldAddr 39 (Go.Operand.tmp 12) 0, type := 0, pos := "law.go:303", after := #[{ on := 15, ground := Go.Ground.guard }], guard := some (15, false) }
def q17 : Oper := { dst := some 56, op := Go.Op.load 9 (Go.Operand.tmp 55), type := 9, pos := "law.go:303", after := #[{ on := 16, ground := Go.Ground.data }, { on := 15, ground := Go.Ground.guard }], guard := some (15, false) }
def q18 : Oper := { dst := some 57, op := Go.Op.load 56 (Go.Operand.tmp 6), type := 56, pos := "law.go:303", after := #[{ on := 15, ground := Go.Ground.guard }], guard := some (15, false) }
def q19 : Oper := { dst := some 58, op := Go.Op.nilCheck (Go.Operand.tmp 57), type := 0, pos := "law.go:303", after := #[{ on := 18, ground := Go.Ground.data }, { on := 15, ground := Go.Ground.guard }], guard := some (15, false) }
def q20 : Oper := { dst := some 59, op := Go.Op.fieldAddr 65 (Go.Operand.tmp 58) 2, type := 0, pos := "law.go:303", after := #[{ on := 19, ground := Go.Ground.data }, { on := 15, ground := Go.Ground.guard }], guard := some (15, false) }
def q21 : Oper := { dst := some 60, op := Go.Op.load 62 (Go.Operand.tmp 59), type := 62, pos := "law.go:303", after := #[{ on := 20, ground := Go.Ground.data }, { on := 15, ground := Go.Ground.guard }], guard := some (15, false) }
def q22 : Oper := { dst := some 61, op := Go.Op.nilCheck (Go.Operand.tmp 60), type := 0, pos := "law.go:303", after := #[{ on := 21, ground := Go.Ground.data }, { on := 15, ground := Go.Ground.guard }], guard := some (15, false) }
def q23 : Oper := { dst := some 62, op := Go.Op.fieldAddr 69 (Go.Operand.tmp 61) 0, type := 0, pos := "law.go:303", after := #[{ on := 22, ground := Go.Ground.data }, { on := 15, ground := Go.Ground.guard }], guard := some (15, false) }
def q24 : Oper := { dst := some 63, op := Go.Op.load 28 (Go.Operand.tmp 62), type := 28, pos := "law.go:303", after := #[{ on := 23, ground := Go.Ground.data }, { on := 15, ground := Go.Ground.guard }], guard := some (15, false) }
def q25 : Oper := { dst := some 64, op := Go.Op.load 3 (Go.Operand.tmp 10), type := 3, pos := "law.go:303", after := #[{ on := 15, ground := Go.Ground.guard }], guard := some (15, false) }
def q26 : Oper := { dst := some 65, op := Go.Op.indexAddr 28 (Go.Operand.tmp 63) (Go.Operand.tmp 64), type := 0, pos := "law.go:303", after := #[{ on := 24, ground := Go.Ground.data }, { on := 25, ground := Go.Ground.data }, { on := 15, ground := Go.Ground.guard }], guard := some (15, false) }
def q27 : Oper := { dst := some 66, op := Go.Op.fieldAddr 39 (Go.Operand.tmp 65) 0, type := 0, pos := "law.go:303", after := #[{ on := 26, ground := Go.Ground.data }, { on := 15, ground := Go.Ground.guard }], guard := some (15, false) }
def q28 : Oper := { dst := some 67, op := Go.Op.load 9 (Go.Operand.tmp 66), type := 9, pos := "law.go:303", after := #[{ on := 27, ground := Go.Ground.data }, { on := 15, ground := Go.Ground.guard }], guard := some (15, false) }
def q29 : Oper := { dst := some 68, op := Go.Op.binOp Go.BinOp.neq 9 (Go.Operand.tmp 56) (Go.Operand.tmp 67) 9, type := 4, pos := "law.go:303", after := #[{ on := 17, ground := Go.Ground.data }, { on := 28, ground := Go.Ground.data }, { on := 15, ground := Go.Ground.guard }], guard := some (15, false) }
def q30 : Oper := { dst := some 69, op := Go.Op.pick (Go.Operand.tmp 54) (Go.Operand.const (Go.Value.bool true)) (Go.Operand.tmp 68), type := 4, pos := "law.go:303", after := #[{ on := 15, ground := Go.Ground.data }, { on := 29, ground := Go.Ground.data }], guard := none }
def q31 : Oper := { dst := some 70, op := Go.Op.move (Go.Operand.tmp 69), type := 4, pos := "law.go:303", after := #[{ on := 30, ground := Go.Ground.data }, { on := 15, ground := Go.Ground.chain }], guard := none }
def q32 : Oper := { dst := some 71, op := Go.Op.fieldAddr 39 (Go.Operand.tmp 12) 1, type := 0, pos := "law.go:303", after := #[{ on := 31, ground := Go.Ground.guard }], guard := some (31, false) }
def q33 : Oper := { dst := some 72, op := Go.Op.load 3 (Go.Operand.tmp 71), type := 3, pos := "law.go:303", after := #[{ on := 32, ground := Go.Ground.data }, { on := 31, ground := Go.Ground.guard }], guard := some (31, false) }
def q34 : Oper := { dst := some 73, op := Go.Op.load 56 (Go.Operand.tmp 6), type := 56, pos := "law.go:303", after := #[{ on := 31, ground := Go.Ground.guard }], guard := some (31, false) }
def q35 : Oper := { dst := some 74, op := Go.Op.nilCheck (Go.Operand.tmp 73), type := 0, pos := "law.go:303", after := #[{ on := 34, ground := Go.Ground.data }, { on := 31, ground := Go.Ground.guard }], guard := some (31, false) }
def q36 : Oper := { dst := some 75, op := Go.Op.fieldAddr 65 (Go.Operand.tmp 74) 2, type := 0, pos := "law.go:303", after := #[{ on := 35, ground := Go.Ground.data }, { on := 31, ground := Go.Ground.guard }], guard := some (31, false) }
def q37 : Oper := { dst := some 76, op := Go.Op.load 62 (Go.Operand.tmp 75), type := 62, pos := "law.go:303", after := #[{ on := 36, ground := Go.Ground.data }, { on := 31, ground := Go.Ground.guard }], guard := some (31, false) }
def q38 : Oper := { dst := some 77, op := Go.Op.nilCheck (Go.Operand.tmp 76), type := 0, pos := "law.go:303", after := #[{ on := 37, ground := Go.Ground.data }, { on := 31, ground := Go.Ground.guard }], guard := some (31, false) }
def q39 : Oper := { dst := some 78, op := Go.Op.fieldAddr 69 (Go.Operand.tmp 77) 0, type := 0, pos := "law.go:303", after := #[{ on := 38, ground := Go.Ground.data }, { on := 31, ground := Go.Ground.guard }], guard := some (31, false) }
def q40 : Oper := { dst := some 79, op := Go.Op.load 28 (Go.Operand.tmp 78), type := 28, pos := "law.go:303", after := #[{ on := 39, ground := Go.Ground.data }, { on := 31, ground := Go.Ground.guard }], guard := some (31, false) }
def q41 : Oper := { dst := some 80, op := Go.Op.load 3 (Go.Operand.tmp 10), type := 3, pos := "law.go:303", after := #[{ on := 31, ground := Go.Ground.guard }], guard := some (31, false) }
def q42 : Oper := { dst := some 81, op := Go.Op.indexAddr 28 (Go.Operand.tmp 79) (Go.Operand.tmp 80), type := 0, pos := "law.go:303", after := #[{ on := 40, ground := Go.Ground.data }, { on := 41, ground := Go.Ground.data }, { on := 31, ground := Go.Ground.guard }], guard := some (31, false) }
def q43 : Oper := { dst := some 82, op := Go.Op.fieldAddr 39 (Go.Operand.tmp 81) 1, type := 0, pos := "law.go:303", after := #[{ on := 42, ground := Go.Ground.data }, { on := 31, ground := Go.Ground.guard }], guard := some (31, false) }
def q44 : Oper := { dst := some 83, op := Go.Op.load 3 (Go.Operand.tmp 82), type := 3, pos := "law.go:303", after := #[{ on := 43, ground := Go.Ground.data }, { on := 31, ground := Go.Ground.guard }], guard := some (31, false) }
def q45 : Oper := { dst := some 84, op := Go.Op.binOp Go.BinOp.neq 3 (Go.Operand.tmp 72) (Go.Operand.tmp 83) 3, type := 4, pos := "law.go:303", after := #[{ on := 33, ground := Go.Ground.data }, { on := 44, ground := Go.Ground.data }, { on := 31, ground := Go.Ground.guard }], guard := some (31, false) }
def q46 : Oper := { dst := some 85, op := Go.Op.pick (Go.Operand.tmp 70) (Go.Operand.const (Go.Value.bool true)) (Go.Operand.tmp 84), type := 4, pos := "law.go:303", after := #[{ on := 31, ground := Go.Ground.data }, { on := 45, ground := Go.Ground.data }], guard := none }
def y0 : Oper := { dst := some 95, op := Go.Op.load 3 (Go.Operand.tmp 9), type := 3, pos := "law.go:311", after := #[], guard := none }
def y1 : Oper := { dst := some 96, op := Go.Op.binOp Go.BinOp.neq 3 (Go.Operand.tmp 95) (Go.Operand.const (Go.Value.int Go.IntKind.i64 1)) 3, type := 4, pos := "law.go:311", after := #[{ on := 0, ground := Go.Ground.data }], guard := none }
def y2 : Oper := { dst := some 97, op := Go.Op.move (Go.Operand.tmp 96), type := 4, pos := "law.go:311", after := #[{ on := 1, ground := Go.Ground.data }], guard := none }
def y3 : Oper := { dst := some 98, op := Go.Op.load 3 (Go.Operand.tmp 10), type := 3, pos := "law.go:311", after := #[{ on := 2, ground := Go.Ground.guard }], guard := some (2, true) }
def y4 : Oper := { dst := some 99, op := Go.Op.load 56 (Go.Operand.tmp 6), type := 56, pos := "law.go:311", after := #[{ on := 2, ground := Go.Ground.guard }], guard := some (2, true) }
def y5 : Oper := { dst := some 100, op := Go.Op.nilCheck (Go.Operand.tmp 99), type := 0, pos := "law.go:311", after := #[{ on := 4, ground := Go.Ground.data }, { on := 2, ground := Go.Ground.guard }], guard := some (2, true) }
def y6 : Oper := { dst := some 101, op := Go.Op.fieldAddr 65 (Go.Operand.tmp 100) 2, type := 0, pos := "law.go:311", after := #[{ on := 5, ground := Go.Ground.data }, { on := 2, ground := Go.Ground.guard }], guard := some (2, true) }
def y7 : Oper := { dst := some 102, op := Go.Op.load 62 (Go.Operand.tmp 101), type := 62, pos := "law.go:311", after := #[{ on := 6, ground := Go.Ground.data }, { on := 2, ground := Go.Ground.guard }], guard := some (2, true) }
def y8 : Oper := { dst := some 103, op := Go.Op.nilCheck (Go.Operand.tmp 102), type := 0, pos := "law.go:311", after := #[{ on := 7, ground := Go.Ground.data }, { on := 2, ground := Go.Ground.guard }], guard := some (2, true) }
def y9 : Oper := { dst := some 104, op := Go.Op.fieldAddr 69 (Go.Operand.tmp 103) 0, type := 0, pos := "law.go:311", after := #[{ on := 8, ground := Go.Ground.data }, { on := 2, ground := Go.Ground.guard }], guard := some (2, true) }
def y10 : Oper := { dst := some 105, op := Go.Op.load 28 (Go.Operand.tmp 104), type := 28, pos := "law.go:311", after := #[{ on := 9, ground := Go.Ground.data }, { on := 2, ground := Go.Ground.guard }], guard := some (2, true) }
def y11 : Oper := { dst := some 106, op := Go.Op.call { callee := Go.Callee.builtin Go.Builtin.len, args := #[Go.Operand.tmp 105], argTypes := #[28] }, type := 3, pos := "law.go:311", after := #[{ on := 10, ground := Go.Ground.data }, { on := 2, ground := Go.Ground.guard }], guard := some (2, true) }
def y12 : Oper := { dst := some 107, op := Go.Op.binOp Go.BinOp.neq 3 (Go.Operand.tmp 98) (Go.Operand.tmp 106) 3, type := 4, pos := "law.go:311", after := #[{ on := 3, ground := Go.Ground.data }, { on := 11, ground := Go.Ground.data }, { on := 2, ground := Go.Ground.guard }], guard := some (2, true) }
def y13 : Oper := { dst := some 108, op := Go.Op.pick (Go.Operand.tmp 97) (Go.Operand.tmp 107) (Go.Operand.const (Go.Value.bool false)), type := 4, pos := "law.go:311", after := #[{ on := 2, ground := Go.Ground.data }, { on := 12, ground := Go.Ground.data }], guard := none }
def y14 : Oper := { dst := some 109, op := Go.Op.move (Go.Operand.tmp 108), type := 4, pos := "law.go:311", after := #[{ on := 13, ground := Go.Ground.data }, { on := 2, ground := Go.Ground.chain }], guard := none }
def y15 : Oper := { dst := some 110, op := Go.Op.load 3 (Go.Operand.tmp 9), type := 3, pos := "law.go:311", after := #[{ on := 14, ground := Go.Ground.guard }], guard := some (14, false) }
def y16 : Oper := { dst := some 111, op := Go.Op.binOp Go.BinOp.eql 3 (Go.Operand.tmp 110) (Go.Operand.const (Go.Value.int Go.IntKind.i64 1)) 3, type := 4, pos := "law.go:311", after := #[{ on := 15, ground := Go.Ground.data }, { on := 14, ground := Go.Ground.guard }], guard := some (14, false) }
def y17 : Oper := { dst := some 112, op := Go.Op.move (Go.Operand.tmp 111), type := 4, pos := "law.go:311", after := #[{ on := 16, ground := Go.Ground.data }, { on := 14, ground := Go.Ground.chain }, { on := 14, ground := Go.Ground.guard }], guard := some (14, false) }
def y18 : Oper := { dst := some 113, op := Go.Op.load 3 (Go.Operand.tmp 3), type := 3, pos := "law.go:311", after := #[{ on := 17, ground := Go.Ground.guard }], guard := some (17, true) }
def y19 : Oper := { dst := some 114, op := Go.Op.binOp Go.BinOp.gtr 3 (Go.Operand.tmp 113) (Go.Operand.const (Go.Value.int Go.IntKind.i64 0)) 3, type := 4, pos := "law.go:311", after := #[{ on := 18, ground := Go.Ground.data }, { on := 17, ground := Go.Ground.guard }], guard := some (17, true) }
def y20 : Oper := { dst := some 115, op := Go.Op.pick (Go.Operand.tmp 112) (Go.Operand.tmp 114) (Go.Operand.const (Go.Value.bool false)), type := 4, pos := "law.go:311", after := #[{ on := 17, ground := Go.Ground.data }, { on := 19, ground := Go.Ground.data }, { on := 14, ground := Go.Ground.guard }], guard := some (14, false) }
def y21 : Oper := { dst := some 116, op := Go.Op.move (Go.Operand.tmp 115), type := 4, pos := "law.go:311", after := #[{ on := 20, ground := Go.Ground.data }, { on := 17, ground := Go.Ground.chain }, { on := 14, ground := Go.Ground.guard }], guard := some (14, false) }
def y22 : Oper := { dst := some 117, op := Go.Op.load 3 (Go.Operand.tmp 10), type := 3, pos := "law.go:311", after := #[{ on := 21, ground := Go.Ground.guard }], guard := some (21, true) }
def y23 : Oper := { dst := some 118, op := Go.Op.load 3 (Go.Operand.tmp 3), type := 3, pos := "law.go:311", after := #[{ on := 21, ground := Go.Ground.guard }], guard := some (21, true) }
def y24 : Oper := { dst := some 119, op := Go.Op.load 56 (Go.Operand.tmp 6), type := 56, pos := "law.go:311", after := #[{ on := 21, ground := Go.Ground.guard }], guard := some (21, true) }
def y25 : Oper := { dst := some 120, op := Go.Op.nilCheck (Go.Operand.tmp 119), type := 0, pos := "law.go:311", after := #[{ on := 24, ground := Go.Ground.data }, { on := 21, ground := Go.Ground.guard }], guard := some (21, true) }
def y26 : Oper := { dst := some 121, op := Go.Op.fieldAddr 65 (Go.Operand.tmp 120) 2, type := 0, pos := "law.go:311", after := #[{ on := 25, ground := Go.Ground.data }, { on := 21, ground := Go.Ground.guard }], guard := some (21, true) }
def y27 : Oper := { dst := some 122, op := Go.Op.load 62 (Go.Operand.tmp 121), type := 62, pos := "law.go:311", after := #[{ on := 26, ground := Go.Ground.data }, { on := 21, ground := Go.Ground.guard }], guard := some (21, true) }
def y28 : Oper := { dst := some 123, op := Go.Op.nilCheck (Go.Operand.tmp 122), type := 0, pos := "law.go:311", after := #[{ on := 27, ground := Go.Ground.data }, { on := 21, ground := Go.Ground.guard }], guard := some (21, true) }
def y29 : Oper := { dst := some 124, op := Go.Op.fieldAddr 69 (Go.Operand.tmp 123) 0, type := 0, pos := "law.go:311", after := #[{ on := 28, ground := Go.Ground.data }, { on := 21, ground := Go.Ground.guard }], guard := some (21, true) }
def y30 : Oper := { dst := some 125, op := Go.Op.load 28 (Go.Operand.tmp 124), type := 28, pos := "law.go:311", after := #[{ on := 29, ground := Go.Ground.data }, { on := 21, ground := Go.Ground.guard }], guard := some (21, true) }
def y31 : Oper := { dst := some 126, op := Go.Op.call { callee := Go.Callee.builtin Go.Builtin.len, args := #[Go.Operand.tmp 125], argTypes := #[28] }, type := 3, pos := "law.go:311", after := #[{ on := 30, ground := Go.Ground.data }, { on := 21, ground := Go.Ground.guard }], guard := some (21, true) }
def y32 : Oper := { dst := some 127, op := Go.Op.call { callee := Go.Callee.builtin Go.Builtin.min, args := #[Go.Operand.tmp 118, Go.Operand.tmp 126], argTypes := #[3, 3] }, type := 3, pos := "law.go:311", after := #[{ on := 23, ground := Go.Ground.data }, { on := 31, ground := Go.Ground.data }, { on := 21, ground := Go.Ground.guard }], guard := some (21, true) }
def y33 : Oper := { dst := some 128, op := Go.Op.binOp Go.BinOp.neq 3 (Go.Operand.tmp 117) (Go.Operand.tmp 127) 3, type := 4, pos := "law.go:311", after := #[{ on := 22, ground := Go.Ground.data }, { on := 32, ground := Go.Ground.data }, { on := 21, ground := Go.Ground.guard }], guard := some (21, true) }
def y34 : Oper := { dst := some 129, op := Go.Op.pick (Go.Operand.tmp 116) (Go.Operand.tmp 128) (Go.Operand.const (Go.Value.bool false)), type := 4, pos := "law.go:311", after := #[{ on := 21, ground := Go.Ground.data }, { on := 33, ground := Go.Ground.data }, { on := 14, ground := Go.Ground.guard }], guard := some (14, false) }
def y35 : Oper := { dst := some 130, op := Go.Op.pick (Go.Operand.tmp 109) (Go.Operand.const (Go.Value.bool true)) (Go.Operand.tmp 129), type := 4, pos := "law.go:311", after := #[{ on := 14, ground := Go.Ground.data }, { on := 34, ground := Go.Ground.data }], guard := none }

end Go.Proofs.YtodlbfekoohpoaaDoor
