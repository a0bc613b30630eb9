/- SameChanges; Diff: the plain law of its steps, the walk. -/
import Derived.Test.YtmoeoomlggjaaaaGreatDoorAmV
namespace Go.Proofs.YtmoeoomlggjaaaaGreatDoor
open Go.RowKit Go.Maps

set_option maxRecDepth 100000 in
set_option maxHeartbeats 4000000 in
theorem sameCs_any (l : List Ch) (A1 A2 : Option Addr) (c1 c2 : Nat) (w : World) (h1 : RowAt chL 4 w w.heap.size A1 l) (h2 : RowAt chL 4 w w.heap.size A2 l) (hm : l.length ≤ 100000) :
    Calls Tryz.prog 24 #[.slice A1 l.length c1, .slice A2 l.length c2] w fun e w' => e = .returned (.bool true) ∧ Below w.heap.size w w' := by
  have H1 := Lib.hid h1
  have H2 := Lib.hid h2
  clear h1 h2
  go_enter Tryz.func24, Tryz.ntmps24
  go_wp2_with fail
  go_loopw [5] (fun i wr => ∃ k : Nat, k ≤ l.length ∧ i = .int .i64 k ∧ Below w.heap.size w wr) (fun i _ => l.length - (intOf i).toNat)
  case atStart => exact ⟨0, Nat.zero_le _, rfl, Below.refl _ _⟩
  case round =>
    obtain ⟨k, hk, rfl, hw0⟩ := hrel
    have z0 := hw0.size
    by_cases hlt : k < l.length
    · obtain ⟨c, hc⟩ : ∃ x, l[k]? = some x := ⟨l[k], List.getElem?_eq_getElem hlt⟩
      obtain ⟨g1, o1, rfl, _, p0, p1, p2, p3⟩ := cellsC (row_step H1.out hw0) hc
      obtain ⟨g2, o2, rfl, _, q0, q1, q2, q3⟩ := cellsC (row_step H2.out hw0) hc
      have hlt2 : (k : Int) < (l.length : Int) := by omega
      have HS := Lib.hid (fun W => sameF_any c.n c.d c.n c.d W)
      rw [show decide (c.n = c.n ∧ c.d = c.d) = true by simp] at HS
      have hbd : Below wr.heap.size wr wr.drew := (Below.refl _ _).drew
      have x0 : wr.drew.cell? ⟨g1, o1 + k * 4, none⟩ = some (.string c.name) := p0
      have x1 : wr.drew.cell? ⟨g1, o1 + k * 4 + 1, none⟩ = some (.bool c.clear) := p1
      have x2 : wr.drew.cell? ⟨g1, o1 + k * 4 + 2, none⟩ = some (.int .i64 c.n) := p2
      have x3 : wr.drew.cell? ⟨g1, o1 + k * 4 + 3, none⟩ = some (.int .i64 c.d) := p3
      have y0 : wr.drew.cell? ⟨g2, o2 + k * 4, none⟩ = some (.string c.name) := q0
      have y1 : wr.drew.cell? ⟨g2, o2 + k * 4 + 1, none⟩ = some (.bool c.clear) := q1
      have y2 : wr.drew.cell? ⟨g2, o2 + k * 4 + 2, none⟩ = some (.int .i64 c.n) := q2
      have y3 : wr.drew.cell? ⟨g2, o2 + k * 4 + 3, none⟩ = some (.int .i64 c.d) := q3
      clear hc
      go_wp2_with fail
      go_region_held3 (fun w' => w'.cell? ⟨g1, o1 + k * 4, none⟩ = some (.string c.name) ∧ w'.cell? ⟨g1, o1 + k * 4 + 1, none⟩ = some (.bool c.clear) ∧ w'.cell? ⟨g1, o1 + k * 4 + 2, none⟩ = some (.int .i64 c.n) ∧ w'.cell? ⟨g1, o1 + k * 4 + 3, none⟩ = some (.int .i64 c.d) ∧ w'.cell? ⟨g2, o2 + k * 4, none⟩ = some (.string c.name) ∧ w'.cell? ⟨g2, o2 + k * 4 + 1, none⟩ = some (.bool c.clear) ∧ w'.cell? ⟨g2, o2 + k * 4 + 2, none⟩ = some (.int .i64 c.n) ∧ w'.cell? ⟨g2, o2 + k * 4 + 3, none⟩ = some (.int .i64 c.d)) (first | with_reducible exact ⟨x0, x1, x2, x3, y0, y1, y2, y3⟩ | with_reducible exact ⟨d0, d1, d2, d3, e0, e1, e2, e3⟩)
        (first | (go_at_call 53; refine (HS.out _).mono ?_; rintro e w5 ⟨rfl, hb5⟩; have hb5' : Below wr.heap.size wr w5 := stepH hbd hb5; have d0 := cell_at p0 hb5'; have d1 := cell_at p1 hb5'; have d2 := cell_at p2 hb5'; have d3 := cell_at p3 hb5'; have e0 := cell_at q0 hb5'; have e1 := cell_at q1 hb5'; have e2 := cell_at q2 hb5'; have e3 := cell_at q3 hb5'))
      go_wp2_with fail
      go_roundw
      case rel => exact ⟨k + 1, by omega, by go_num, stepH hw0 hb5'⟩
      case measure => simp [intOf] <;> omega
    · obtain rfl : k = l.length := by omega
      have hlt2 : ¬ (l.length : Int) < (l.length : Int) := by omega
      go_wp2_with fail
      go_ret
      exact ⟨rfl, hw0⟩

/-- the first loop's step: what is not there any more -/
def step1 (v : St) (f : Am) (x : It) : Am := if (v (itb x)).isSome = true then f else putA f ⟨x.name, true, 0, 0⟩
/-- the second loop's step: what is there in another way -/
def step2 (u : St) (f : Am) (x : It) : Am := if u (itb x) = some (x.n, x.d) then f else putA f ⟨x.name, false, x.n, x.d⟩
theorem step1_at (v : St) (y : List UInt8) : ∀ (l : List It) (f : Am), (l.foldl (step1 v) f) y = if y ∈ l.map itb ∧ (v y).isSome = false then some ⟨mkN y, true, 0, 0⟩ else f y
  | [], f => by simp
  | x :: r, f => by
    rw [List.foldl_cons, step1_at v y r]
    by_cases h1 : y ∈ r.map itb ∧ (v y).isSome = false
    · rw [if_pos h1, if_pos ⟨List.mem_cons_of_mem _ h1.1, h1.2⟩]
    · rw [if_neg h1]
      unfold step1
      by_cases hy : y = itb x
      · subst hy
        cases hv : v (itb x) with
        | none =>
          rw [if_neg (by simp), if_pos ⟨List.mem_cons_self .., by simp⟩]
          rw [show putA f ⟨x.name, true, 0, 0⟩ (itb x) = some ⟨x.name, true, 0, 0⟩ from if_pos rfl]
          unfold itb
          rw [mkN_name]
        | some b => simp
      · have h2 : ¬ (y ∈ (x :: r).map itb ∧ (v y).isSome = false) := fun h => h1 ⟨((List.mem_cons.1 h.1).resolve_left hy), h.2⟩
        rw [if_neg h2]
        split
        · rfl
        · exact if_neg hy
theorem step2_not (u : St) {y : List UInt8} : ∀ (l : List It) (f : Am), y ∉ l.map itb → (l.foldl (step2 u) f) y = f y
  | [], _, _ => rfl
  | x :: r, f, h => by
    rw [List.map_cons, List.mem_cons, not_or] at h
    rw [List.foldl_cons, step2_not u r _ h.2]
    unfold step2
    split
    · rfl
    · exact if_neg h.1
theorem step2_yes (u : St) : ∀ (l : List It) (f : Am), (l.map itb).Nodup → ∀ x ∈ l, (l.foldl (step2 u) f) (itb x) = if u (itb x) = some (x.n, x.d) then f (itb x) else some ⟨x.name, false, x.n, x.d⟩
  | [], _, _, _, h => by cases h
  | z :: r, f, hn, x, hx => by
    rw [List.map_cons, List.nodup_cons] at hn
    rw [List.foldl_cons]
    rcases List.mem_cons.1 hx with rfl | hx
    · rw [step2_not u r _ hn.1]
      unfold step2
      split
      · rfl
      · exact if_pos rfl
    · rw [step2_yes u r _ hn.2 x hx]
      have hne : itb x ≠ itb z := fun e => hn.1 (by rw [← e]; exact List.mem_map_of_mem hx)
      split
      · unfold step2
        split
        · rfl
        · exact if_neg hne
      · rfl
theorem steps_diff {l1 l2 : List It} (hn : (l2.map itb).Nodup) : l2.foldl (step2 (inF l1)) (l1.foldl (step1 (inF l2)) (fun _ => none)) = diffA (inF l1) (inF l2) := by
  funext y
  unfold diffA
  by_cases hy : y ∈ l2.map itb
  · obtain ⟨x, hx, rfl⟩ := List.mem_map.1 hy
    rw [step2_yes _ _ _ hn x hx, step1_at, inF_yes hn hx]
    simp
    split
    · rfl
    · unfold itb; rw [mkN_name]
  · rw [step2_not _ _ _ hy, step1_at, inF_not hy]
    simp only [Option.isSome_none, and_true, ← inF_some]
theorem foldl_snoc {α β : Type} {f : β → α → β} {b : β} {l : List α} {k : Nat} {x : α} (h : l[k]? = some x) : (l.take (k + 1)).foldl f b = f ((l.take k).foldl f b) x := by
  rw [take_snoc h, List.foldl_append]; rfl
theorem neFr {a b c d : Int} {r : Bool} (h : (!(a == c && b == d)) = r) (w : World) : (binOp .neq 39 (.agg #[.int .i64 a, .int .i64 b]) (.agg #[.int .i64 c, .int .i64 d])).run Tryz.prog w = .ok (.bool r) w := by
  have := eqFracA a b c d 9998 w
  rw [run_neq_struct, this, ← h]
  rfl
end Go.Proofs.YtmoeoomlggjaaaaGreatDoor
