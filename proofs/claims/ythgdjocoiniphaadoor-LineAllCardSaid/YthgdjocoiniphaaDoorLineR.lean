/- The pieces of a timeline, one by one: the iterator's walk. -/
import Derived.Test.YthgdjocoiniphaaDoorLineJ
namespace Go.Proofs.YthgdjocoiniphaaDoor
open Go.RowKit Go.Shelf
attribute [local go_sem] Oper.semAt_some

def encS (p : Pc Int) : Array Value := #[.agg #[.int .i64 p.f, .int .i64 p.t], .int .i64 p.v]

theorem all6_any (A : Option Addr) (n c : Nat) (w : World) : Calls Tryd.prog 37 #[.agg #[.slice A n c]] w fun e w' => (∃ Bx, e = .returned (.func (.func 98) #[] #[.pointer (some ⟨Bx, 0, none⟩)]) ∧ w.heap.size ≤ Bx ∧ Hid (w'.heap[Bx]? = some (.cells #[.slice A n c] 61 (0, 0)))) ∧ Below w.heap.size w w' := by
  go_enter Tryd.func37, Tryd.ntmps37
  go_wp2_with fail
  go_ret
  exact ⟨⟨w.heap.size, rfl, Nat.le_refl _, blk_new rfl⟩, by (repeat' (first | with_reducible exact Below.refl _ _ | with_reducible assumption | with_reducible refine Below.drew ?_ | with_reducible refine below_drewN ?_ _ | with_reducible refine Below.setCell ?_ ?_ _ | with_reducible refine Below.alloc ?_ ?_ _ | omega | (simp; done) | (simp; omega)))⟩

set_option maxRecDepth 100000 in
set_option maxHeartbeats 8000000 in
theorem all1_in (l : List (Pc Int)) (A : Option Addr) (c : Nat) (hm : l.length ≤ 1000) (n lf Bx M : Nat) (_hBx : Bx < M) (J Jx : List (Pc Int) → World → Prop) (W : World) (hJ : AbidesFrom W.heap.size J)
    (hY : ∀ pre y W1, J pre W1 → pre.length < l.length → YieldAt Fence.wide (n - 1) Tryd.prog lf (encS y) W1 fun e W' => (e = .returned (.bool true) ∧ J (pre ++ [y]) W' ∧ Below M W1 W') ∨ (e = .returned (.bool false) ∧ Jx (pre ++ [y]) W'))
    (hhi : M ≤ W.heap.size) (h1 : Hid (W.heap[Bx]? = some (.cells #[.slice A l.length c] 61 (0, 0)))) (hl : RowAt encP 3 W M A l) (h0 : J [] W) :
    CallsIn Fence.wide n Tryd.prog 98 #[.func (.yield lf) #[] #[], .pointer (some ⟨Bx, 0, none⟩)] W fun e W' => (∃ v, e = .returned v) ∧
      ((∃ ys, ys = l ∧ J ys W') ∨ (∃ pre, pre <+: l ∧ Jx pre W')) := by
  have HL := Lib.hid hl
  clear hl
  refine callsIn_of_wp Tryd.func98 rfl trivial ?_ rfl; simp only [Tryd.ntmps98, List.size_toArray, List.length_cons, List.length_nil, Nat.reduceAdd, Nat.reduceSub, Array.replicate_succ, Array.replicate_zero, List.push_toArray, List.append_toArray, List.nil_append, List.cons_append]
  have c1 := cellH h1
  have l1 := lt_of_H h1
  gi_wp2
  gi_loopw [8] (fun i wr => ∃ k : Nat, k ≤ l.length ∧ i = .int .i64 k ∧ J (l.take k) wr ∧ Below M W wr) (fun i _ => l.length - (intOf i).toNat)
  case atStart => exact ⟨0, Nat.zero_le _, rfl, h0, Below.refl _ _⟩
  case round =>
    clear c1
    obtain ⟨k, hk, rfl, hJs, hkr⟩ := hrel
    have hsz : W.heap.size ≤ wr.heap.size := hkr.size
    by_cases hlt : k < l.length
    · obtain ⟨p, hp⟩ : ∃ p, l[k]? = some p := ⟨l[k], List.getElem?_eq_getElem hlt⟩
      obtain ⟨g, off, rfl, hg, j0, j1, j2⟩ := cells3 (HL.out.below hkr (Nat.le_refl _)) hp
      have hlt2 : (k : Int) < (l.length : Int) := by omega
      have hpl : (l.take k).length < l.length := by rw [List.length_take]; omega
      have HP := Lib.hid hp
      clear hp
      gi_upto_region 3 with fail
      have hol : Below wr.heap.size wr (wr.alloc (.cells #[.int .i64 p.f, .int .i64 p.t, .int .i64 p.v] 73)) := (Below.refl _ _).alloc (Nat.le_refl _) _
      obtain ⟨fn, tmps, assign, body, hy, hR⟩ := hY (l.take k) p (wr.alloc (.cells #[.int .i64 p.f, .int .i64 p.t, .int .i64 p.v] 73)) (abide hJ hJs hol) hpl
      dsimp only [encS] at hy
      gi_wp2_with fail
      refine ⟨(fun hd => by cases hd), hR.mono ?_⟩
      rintro e W3 (⟨rfl, hJ3, hk3⟩ | ⟨rfl, hJx3⟩)
      · gi_wp2_with fail
        go_roundw
        case rel => exact ⟨k + 1, by omega, by go_num, by rw [take_snoc HP.out]; exact hJ3, (hkr.trans (hol.mono (by omega))).trans hk3⟩
        case measure => simp [intOf]; omega
      · gi_wp2_with fail
        refine bodyPost_ret (results_none rfl _ _ _) rfl ?_
        exact ⟨⟨_, rfl⟩, .inr ⟨_, ⟨l.drop (k + 1), by rw [← take_snoc HP.out, List.take_append_drop]⟩, hJx3⟩⟩
    · obtain rfl : k = l.length := by omega
      gi_wp2_with fail
      go_end0
      exact ⟨⟨_, rfl⟩, .inl ⟨_, rfl, by rw [List.take_length] at hJs; exact hJs⟩⟩

theorem all1_stops (l : List (Pc Int)) (A : Option Addr) (c : Nat) (hm : l.length ≤ 1000) (n Bx M : Nat) (hBx : Bx < M) (W0 : World) (hhi : M ≤ W0.heap.size)
    (h1 : Hid (W0.heap[Bx]? = some (.cells #[.slice A l.length c] 61 (0, 0)))) (hl : RowAt encP 3 W0 M A l) :
    SeqStopsK Fence.wide n Tryd.prog 98 #[.pointer (some ⟨Bx, 0, none⟩)] encS (Below M) (fun ys => ys = l) (fun pre => pre <+: l) l.length W0 := fun lf J Jx W hW hJ _ hY h0 =>
  all1_in l A c hm n lf Bx M hBx J Jx W hJ hY (Nat.le_trans hhi hW.size) ((hW.block _ (Nat.lt_of_lt_of_le hBx hhi)).trans h1.out) (hl.below (hW.mono (Nat.le_refl _)) hhi) h0

end Go.Proofs.YthgdjocoiniphaaDoor
