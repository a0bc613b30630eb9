/- Timelines: Pieces; pieces that touch put together: walks. -/
import Derived.Test.YtmodofbelpaelaaDoorLineA
import Derived.Deep.RegionHeldLaw
import Derived.Deep.AppendLies
import Derived.Laws.AppendOwnNone
import Derived.Laws.MakeOwn
namespace Go.Proofs.YtmodofbelpaelaaDoor
open Go.RowKit

/-- 'append' at a step of a region that draws its order: onto a slice of the call's own, any source -/
theorem step_append_any {P : Program} {ops : Array Oper} {o : Oper} {a : Act} {w : World} {K : Act → World → Prop} {Q : Exit → Act → World → Prop} {E : Prop} (hgd : o.guard = none) (s x : Operand) (t : TypeId)
    (ho : o.op = .call { callee := .builtin .append, args := #[s, x], argTypes := #[t, t] })
    (base : Nat) (e : TypeId) (i : TypeInfo) (z : Value) (size bytes : Nat) (ht : P.underlying t = some (.slice e)) (hi : P.info? e = some i) (hz : i.zero = some z)
    (hsize : i.size = size) (hby : i.bytes = bytes) (hzs : z.cells.size = size) (hsz : 0 < size)
    (v : Value) (n : Nat) (xs : List Value) (hs : a.eval s = v) (hown : w.ownsRow base e size v n xs)
    (A : Option Addr) (m c : Nat) (news : List Value) (hx : a.eval x = .slice A m c) (hl : news.length = m * size) (hnews : ∀ ad, A = some ad → ∀ j u, news[j]? = some u → w.cell? (ad.add j) = some u) (hA : A = none → m = 0 ∧ c = 0) (h1 : ∀ u ∈ news, u.oneCell' = true)
    (h63 : n + m ≤ maxLen) (hbytes : (n + m) * bytes ≤ 140737488355328) (hbase : base ≤ w.heap.size)
    (h : ∀ v' w', w'.ownsRow base e size v' (n + m) (xs ++ news) → w.grownBy w' v.ownBlock → K (a.put o.dst v') w') :
    if Region.wanted o (yielded ops a.tmps) = true then Oper.wp P o a w K Q else E := by
  have hw : Region.wanted o (yielded ops a.tmps) = true := by simp [Region.wanted, hgd]
  rw [if_pos hw]
  cases A with
  | some ad => exact wp_append_own w s x t ho base e i z size bytes ht hi hz hsize hby hzs hsz v n xs hs hown ad m c news hx hl (hnews ad rfl) h1 h63 hbytes hbase fun v' w' h2 h3 _ => h v' w' h2 h3
  | none =>
    obtain ⟨rfl, rfl⟩ := hA rfl
    have hrun := run_append_owned_none (P := P) (w := w) base t o.type e i size ht hi v n xs hown
    obtain rfl : news = [] := List.eq_nil_of_length_eq_zero (by simpa using hl)
    unfold Oper.wp
    simp [execOp, ho, resolve, invoke, builtin, hs, hx, hrun, Result.andThen]
    exact h _ _ (by simpa using hown) ⟨rfl, rfl, rfl, Nat.le_refl _, fun _ _ _ => rfl⟩

theorem rowFlat {α : Type} {enc : α → List Value} {size : Nat} (hs : ∀ x, (enc x).length = size) (hsz : 0 < size) {w : World} {B : Nat} {A : Option Addr} {l : List α} (h : RowAt enc size w B A l) : ∀ ad, A = some ad → ∀ j u, (l.flatMap enc)[j]? = some u → w.cell? (ad.add j) = some u := by
  intro ad ha j u hj
  have hlt : j < l.length * size := by rw [← flat_len (fun x _ => hs x)]; exact (List.getElem?_eq_some_iff.1 hj).1
  have hdiv : j / size < l.length := Nat.div_lt_of_lt_mul (by rw [Nat.mul_comm]; exact hlt)
  obtain ⟨b, hb⟩ : ∃ b, l[j / size]? = some b := ⟨l[j / size], List.getElem?_eq_getElem hdiv⟩
  obtain ⟨g, off, e, _, hc⟩ := h (j / size) b hb
  rw [e] at ha
  cases ha
  have hm : j % size < (enc b).length := by rw [hs]; exact Nat.mod_lt _ hsz
  have hf := flat_at (l := l) (enc := enc) (size := size) (fun x _ => hs x) hb (List.getElem?_eq_getElem hm)
  have hjd : j / size * size + j % size = j := Nat.div_add_mod' j size
  rw [hjd, hj] at hf
  have := hc (j % size) _ (List.getElem?_eq_getElem hm)
  rw [← hf, show off + j / size * size + j % size = off + j by omega] at this
  rw [Go.WideShapes.add_plain]
  exact this

theorem infoPc : (Tryd.prog.info? 113).map (fun i => (i.zero, i.size, i.bytes)) = some (some (.agg #[.int .i64 0, .int .i64 0, .int .i64 0]), 3, 24) := by kernel_rfl
theorem encP_one (l : List (Pc Int)) : ∀ u ∈ l.flatMap encP, u.oneCell' = true := by
  intro u hu
  obtain ⟨b, _, hb⟩ := List.mem_flatMap.1 hu
  simp only [encP, List.mem_cons, List.not_mem_nil, or_false] at hb
  rcases hb with rfl | rfl | rfl <;> rfl
theorem encP_flat (l : List (Pc Int)) : (l.flatMap encP).length = l.length * 3 := flat_len (fun x _ => encP_len x)

theorem made_own {w : World} {base g n size : Nat} {e : TypeId} {cs : Array Value} (hg : w.heap.size = g) (hb : base ≤ g) (hn : n ≤ maxLen) (hc : cs.size = n * size) : (w.alloc (.cells cs e)).drew.ownsRow base e size (.slice (some ⟨g, 0, none⟩) 0 n) 0 [] :=
  ⟨by simp, .inr ⟨g, n, cs, rfl, hb, drew_old (blk_new hg), Nat.zero_le _, hn, hc, by simp⟩⟩

set_option maxRecDepth 10000 in
set_option maxHeartbeats 4000000 in
theorem pieces6_any (l : List (Pc Int)) (A : Option Addr) (c : Nat) (w : World) (hl : RowAt encP 3 w w.heap.size A l) (hm : l.length ≤ 1000000) (hA : A = none → c = 0) :
    Calls Tryd.prog 73 #[.agg #[.slice A l.length c]] w fun e w' => ∃ v, e = .returned v ∧ Own encP 3 113 w.heap.size w' v l ∧ Below w.heap.size w w' := by
  obtain ⟨inf0, hi, jz0, jz1, jz2⟩ := info_parts infoPc
  obtain ⟨MC, hMC, hmk⟩ : ∃ MC : Array Value, MC.size = l.length * 3 ∧ ∀ w : World, (Instr.makeSlice 60 (.int .i64 0) (.int .i64 (l.length : Int))).run Tryd.prog w = .ok (.slice (some ⟨w.heap.size, 0, none⟩) 0 l.length) (w.alloc (.cells MC 113)) := by
    refine ⟨madeCells (Value.agg #[.int .i64 0, .int .i64 0, .int .i64 0]).cells (l.length * inf0.size), by rw [size_madeCells, jz1], fun w => ?_⟩
    have h := run_make (P := Tryd.prog) (w := w) 60 113 inf0 _ Tryd.underlying60 hi jz0 .i64 .i64 0 (l.length : Int) (Int.le_refl _) (by omega) (by rw [jz2]; omega) (by omega)
    simpa using h
  have HL := Lib.hid hl
  have HA : Hid (A = none → l.length = 0 ∧ c = 0) := fun h => by
    refine ⟨?_, hA h⟩
    cases l with
    | nil => rfl
    | cons p r => obtain ⟨_, _, e, _⟩ := HL.out 0 p rfl; rw [h] at e; cases e
  clear hl hA
  have HF := Lib.hid (rowFlat encP_len (by decide) HL.out)
  have H1 := Lib.hid (encP_one l)
  have HN := Lib.hid (encP_flat l)
  go_enter Tryd.func73, Tryd.ntmps73
  go_wp2_with fail
  go_region_held_law (fun w' => w'.cell? ⟨w.heap.size, 0, none⟩ = some (.slice A l.length c)) (first | go_keep | exact (World.grownBy.cell_far hgrow9 ⟨w.heap.size, 0, none⟩ (by simp; omega) (by simp [Value.ownBlock])).trans ‹_›)
    ((refine step_append_any (by rfl) (.tmp 6) (.tmp 8) 60 (by rfl) w.heap.size 113 inf0 _ 3 24 Tryd.underlying60 hi jz0 jz1 jz2 rfl (by decide) _ 0 [] (by rfl) (made_own (by simp) (by simp) (by unfold maxLen; omega) hMC) A l.length c (l.flatMap encP) (by rfl) HN.out (fun ad ha j u hj => cell_drew (cell_alloc (cell_alloc (HF.out ad ha j u hj)))) HA.out H1.out (by unfold maxLen; omega) (by omega) (by simp; omega) ?_; intro v' w9 hown9 hgrow9))
  go_wp2_with fail
  go_ret
  refine ⟨_, rfl, ?_, Below.grown ?_ hgrow9 (by simp; omega) (fun k e => ?_)⟩
  · unfold Own; simpa using hown9
  · exact ((by (repeat' (first | with_reducible exact Below.refl _ _ | with_reducible assumption | with_reducible refine Below.drew ?_ | with_reducible refine below_drewN ?_ _ | with_reducible refine Below.setCell ?_ ?_ _ | with_reducible refine Below.alloc ?_ ?_ _ | omega | (simp; done) | (simp; omega))) : Below w.heap.size w ((w.alloc (.cells #[.slice A l.length c] 62)).alloc (.cells MC 113)))).drew
  · simp only [Value.ownBlock, Option.some.injEq] at e; omega

end Go.Proofs.YtmodofbelpaelaaDoor
