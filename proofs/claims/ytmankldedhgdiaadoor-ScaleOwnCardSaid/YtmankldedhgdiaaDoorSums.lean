/- titheref.Fracs and frac.Sum, walked: a copy in new memory; the sum from left to right. -/
import Derived.Test.YtmankldedhgdiaaDoorFracG
import Derived.Test.YtmankldedhgdiaaDoorSlice
import Derived.OwnWalk
namespace Go.Proofs.YtmankldedhgdiaaDoor
open Go.RowKit

def encF (x : Int × Int) : List Value := [.int .i64 x.1, .int .i64 x.2]
theorem encF_len (x : Int × Int) : (encF x).length = 2 := rfl
/-- both are numbers of Go's int -/
def In2 (x : Int × Int) : Prop := -9223372036854775808 ≤ x.1 ∧ x.1 ≤ 9223372036854775807 ∧ -9223372036854775808 ≤ x.2 ∧ x.2 ≤ 9223372036854775807
theorem infoFrac : (Tryd.prog.info? 24).map (fun i => (i.zero, i.size, i.bytes)) = some (some (.agg #[.int .i64 0, .int .i64 0]), 2, 16) := by kernel_rfl
theorem take_snoc {α : Type} {l : List α} {k : Nat} {x : α} (hx : l[k]? = some x) : l.take (k + 1) = l.take k ++ [x] := by
  rw [List.take_add_one, hx]; rfl
theorem nextH {W w1 : World} {g : Nat} {x : Obj} (hb : Below W.heap.size W w1) (h : Hid (W.heap[g]? = some x)) : Hid (w1.heap[g]? = some x) := keepH hb h.out
theorem newH {w : World} {o : Obj} : Hid ((w.alloc o).heap[w.heap.size]? = some o) := blk_new rfl
theorem oldH {w : World} {o x : Obj} {g : Nat} (h : Hid (w.heap[g]? = some x)) : Hid ((w.alloc o).heap[g]? = some x) := blk_old h.out

/-- the fraction that a valid pair is -/
def fq (q : Rat) : Int × Int := (q.num, q.den)
/-- the sum from left to right, each step within range -/
def foldR : Rat → List Rat → Except Nat Rat
  | a, [] => .ok a
  | a, q :: r => if Good (a + q) then foldR (a + q) r else .error 5
def toQ (x : Int × Int) : Rat := Rat.divInt x.1 x.2
theorem toQ_fq (q : Rat) : toQ (fq q) = q := Rat.num_divInt_den q
def allV (l : List (Int × Int)) : Bool := l.all fun x => validB x.1 x.2
/-- what Sum answers -/
def sumI (l : List (Int × Int)) : Except Nat Rat := if allV l = true then foldR 0 (l.map toQ) else .error 3
theorem sumI_bad {l : List (Int × Int)} {x : Int × Int} (hx : x ∈ l) (hv : validB x.1 x.2 = false) : sumI l = .error 3 := by
  unfold sumI
  rw [if_neg]
  intro h
  have := List.all_eq_true.1 h x hx
  rw [hv] at this
  cases this
theorem all_fq {l : List (Int × Int)} (h : ∀ x ∈ l, validB x.1 x.2 = true) : ∃ qs : List Rat, l = qs.map fq ∧ ∀ q ∈ qs, Good q := by
  induction l with
  | nil => exact ⟨[], rfl, fun q h => by simp at h⟩
  | cons x r ih =>
    obtain ⟨qs, rfl, hq⟩ := ih fun y hy => h y (List.mem_cons_of_mem _ hy)
    obtain ⟨q, hg, h1, h2⟩ := good_of_validB (h x (List.mem_cons_self ..))
    refine ⟨q :: qs, ?_, fun p hp => ?_⟩
    · rw [List.map_cons]; congr 1; exact Prod.ext h1 h2
    · rcases List.mem_cons.1 hp with rfl | hp
      · exact hg
      · exact hq p hp
theorem sumI_fq {qs : List Rat} (h : ∀ q ∈ qs, Good q) : sumI (qs.map fq) = foldR 0 qs := by
  unfold sumI
  rw [if_pos]
  · congr 1
    rw [List.map_map]
    have : toQ ∘ fq = id := funext toQ_fq
    rw [this, List.map_id]
  · unfold allV
    rw [List.all_eq_true]
    intro x hx
    obtain ⟨q, hq, rfl⟩ := List.mem_map.1 hx
    show validB q.num q.den = true
    rw [validB_good]
    exact decide_eq_true (h q hq)
theorem foldR_step {qs : List Rat} {k : Nat} {a q : Rat} (hq : qs[k]? = some q) : foldR a (qs.drop k) = if Good (a + q) then foldR (a + q) (qs.drop (k + 1)) else .error 5 := by
  have hk : k < qs.length := (List.getElem?_eq_some_iff.1 hq).1
  rw [List.drop_eq_getElem_cons hk]
  have : qs[k] = q := (List.getElem?_eq_some_iff.1 hq).2
  rw [this]; rfl
theorem resF_two {E : Nat → Addr} {q : Rat} {n d : Int} {err : Value} (h : ResF E (goodR q) n d err) : (Good q ∧ n = q.num ∧ d = q.den ∧ err = .nilIface) ∨ (¬ Good q ∧ n = 0 ∧ d = 0 ∧ err = (.iface 122 (.pointer (some (E 5))))) := by
  unfold goodR at h
  by_cases hg : Good q
  · rw [if_pos hg] at h; exact .inl ⟨hg, h⟩
  · rw [if_neg hg] at h; exact .inr ⟨hg, h⟩
theorem good_zero : Good 0 := by decide +kernel
theorem bds {q : Rat} (h : Good q) : -9223372036854775808 ≤ q.num ∧ q.num ≤ 9223372036854775807 ∧ -9223372036854775808 ≤ (q.den : Int) ∧ (q.den : Int) ≤ 9223372036854775807 := by
  obtain ⟨a, b, c, d⟩ := num_le h; omega

end Go.Proofs.YtmankldedhgdiaaDoor
