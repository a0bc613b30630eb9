/- A ledger's notes, one by one: the iterator's walk. -/
import Derived.Test.YtodlbfekoohpoaaDoorEachC
import Derived.Test.YtodlbfekoohpoaaDoorInRound
import Derived.Sort.Row
namespace Go.Proofs.YtodlbfekoohpoaaDoor
open Go.RowKit Go.Shelf
attribute [local go_sem] Oper.semAt_some

/-- all below m stays, and every block of cells from h0 on -/
structure KeepC (m h0 : Nat) (W W' : World) : Prop where
  below : Below m W W'
  cells : ∀ k cs t z, h0 ≤ k → W.heap[k]? = some (.cells cs t z) → W'.heap[k]? = some (.cells cs t z)
theorem KeepC.refl (m h0 : Nat) (W : World) : KeepC m h0 W W := ⟨Below.refl _ _, fun _ _ _ _ _ h => h⟩
theorem KeepC.trans {m h0 : Nat} {A B C : World} (h : KeepC m h0 A B) (k : KeepC m h0 B C) : KeepC m h0 A C := ⟨h.below.trans k.below, fun i cs t z hi e => k.cells i cs t z hi (h.cells i cs t z hi e)⟩
theorem KeepC.ofBelow {m h0 : Nat} {W W' : World} (h : Below W.heap.size W W') (hm : m ≤ W.heap.size) : KeepC m h0 W W' := ⟨h.mono hm, fun k _ _ _ _ e => (h.block k (Array.getElem?_eq_some_iff.1 e).1).trans e⟩
theorem KeepC.only {m h0 : Nat} {L : List Nat} {W W' : World} (h : OnlyL L W W') (hm : m ≤ W.heap.size) (hL : ∀ k ∈ L, m ≤ k ∧ k < h0) : KeepC m h0 W W' :=
  ⟨h.below hm (fun k e => (hL k e).1), fun k _ _ _ hk e => (h.block k (Array.getElem?_eq_some_iff.1 e).1 (fun hm => by have := hL k hm; omega)).trans e⟩
theorem keepC_b {m h0 : Nat} {w : World} (hm : m ≤ w.heap.size) (W : World) (l : Nat) (o o' : Obj) (hl : w.heap.size ≤ l) (h : W.heap[l]? = some o) (hc : o.isCells = false) (_ : o.isWalk = false) : KeepC m h0 W (W.putObj l o') :=
  ⟨(Below.refl m W).grown (grownBy_putObj' W l o') (by have := (Array.getElem?_eq_some_iff.1 h).1; omega) (fun k e => by cases e; omega), fun k cs t z _ e => ((grownBy_putObj' W l o').block k (Array.getElem?_eq_some_iff.1 e).1 (fun e2 => by injection e2 with e2; subst e2; rw [e] at h; cases h; cases hc)).trans e⟩
theorem row_keepC {w w' : World} {m h0 B : Nat} {A : Option Addr} {l : List Nt} (h : RowAt encN 2 w B A l) (hf : ∀ a, A = some a → h0 ≤ a.block) (hk : KeepC m h0 w w') : RowAt encN 2 w' B A l := fun k x hx => by
  obtain ⟨b, off, h1, h2, h3⟩ := h k x hx
  refine ⟨b, off, h1, h2, fun j u hj => ?_⟩
  have h4 := h3 j u hj
  obtain ⟨c, e, fr, hb, _⟩ := Go.Sort.cells_of_cell? h4
  have h5 := hk.cells b c e fr (hf _ h1) hb
  exact (World.cell?_of_block (a := ⟨b, _, none⟩) (h5.trans hb.symm)).trans h4

/-- what a round gets: the place, the note -/
def encE (x : Nt × Nat) : Array Value := #[.int .i64 x.2, .agg #[.string x.1.1, .int .i64 x.1.2]]

theorem each_any (L : Nat) (w : World) : Calls Tryd.prog 26 #[.pointer (some ⟨L, 0, none⟩)] w fun e w' => (∃ Bx, e = .returned (.func (.func 43) #[] #[.pointer (some ⟨Bx, 0, none⟩)]) ∧ w.heap.size ≤ Bx ∧ Hid (w'.heap[Bx]? = some (.cells #[.pointer (some ⟨L, 0, none⟩)] 24 (0, 0)))) ∧ Below w.heap.size w w' := by
  go_enter Tryd.func26, Tryd.ntmps26
  go_wp2_with fail
  go_ret
  exact ⟨⟨w.heap.size, rfl, Nat.le_refl _, blk_new rfl⟩, by (repeat' (first | with_reducible exact Below.refl _ _ | with_reducible assumption | with_reducible refine Below.drew ?_ | with_reducible refine below_drewN ?_ _ | with_reducible refine Below.setCell ?_ ?_ _ | with_reducible refine Below.alloc ?_ ?_ _ | omega | (simp; done) | (simp; omega)))⟩

set_option maxRecDepth 100000 in
set_option maxHeartbeats 8000000 in
theorem each1_in (b L P U um : Nat) (v : Value) (N : List Nt) (n lf Bx M h0 : Nat) (_hBx : Bx < M) (J Jx : List (Nt × Nat) → World → Prop) (W : World) (hJ : AbidesFrom W.heap.size J)
    (hY : ∀ pre y W1, J pre W1 → pre.length < N.zipIdx.length → YieldAt Fence.wide (n - 1) Tryd.prog lf (encE y) W1 fun e W' => (e = .returned (.bool true) ∧ J (pre ++ [y]) W' ∧ KeepC M h0 W1 W') ∨ (e = .returned (.bool false) ∧ Jx (pre ++ [y]) W'))
    (hhi : M ≤ W.heap.size) (hh0 : h0 ≤ W.heap.size) (h1 : Hid (W.heap[Bx]? = some (.cells #[.pointer (some ⟨L, 0, none⟩)] 24 (0, 0)))) (hl : Led b W L P U v N [] false um) (hj0 : J [] W) :
    CallsIn Fence.wide n Tryd.prog 43 #[.func (.yield lf) #[] #[], .pointer (some ⟨Bx, 0, none⟩)] W fun e W' => (∃ v, e = .returned v) ∧
      ((∃ ys, ys = N.zipIdx ∧ J ys W') ∨ (∃ pre, pre <+: N.zipIdx ∧ Jx pre W')) := by
  have HLN := Lib.hid (notes_far b L P U um v N [] false W hl)
  have hlen := hl.len
  clear hl
  refine callsIn_of_wp Tryd.func43 rfl trivial ?_ rfl; simp only [Tryd.ntmps43, List.size_toArray, List.length_cons, List.length_nil, Nat.reduceAdd, Nat.reduceSub, Array.replicate_succ, Array.replicate_zero, List.push_toArray, List.append_toArray, List.nil_append, List.cons_append]
  have c1 := cellH h1
  have l1 := lt_of_H h1
  gi_wp2_with fail
  first | refine wide_open ?_ | refine wide_open2 ?_
  refine HLN.out.mono ?_
  rintro e w1 ⟨⟨A1, rfl, hr1, hf1⟩, hb1⟩
  have HR1 := Lib.hid hr1
  have HF1 : Hid (∀ a, A1 = some a → h0 ≤ a.block) := fun a e => Nat.le_trans hh0 (hf1 a e)
  have HJ1 := Lib.hid (abide hJ hj0 hb1)
  have HK1 : Hid (KeepC M h0 W w1) := KeepC.ofBelow hb1 hhi
  have hz1 := hb1.size
  clear hr1 hf1 hb1 c1 hj0
  gi_wp2_with fail
  gi_loopw [8] (fun i wr => ∃ k : Nat, k ≤ N.length ∧ i = .int .i64 k ∧ J (N.zipIdx.take k) wr ∧ KeepC M h0 W wr ∧ Hid (RowAt encN 2 wr w1.heap.size A1 N) ∧ w1.heap.size ≤ wr.heap.size) (fun i _ => N.length - (intOf i).toNat)
  case atStart => exact ⟨0, Nat.zero_le _, rfl, HJ1.out, HK1.out, HR1, Nat.le_refl _⟩
  case round =>
    obtain ⟨k, hk, rfl, hJs, hkr, HR, hsz⟩ := hrel
    by_cases hlt : k < N.length
    · obtain ⟨p, hp⟩ : ∃ p, N[k]? = some p := ⟨N[k], List.getElem?_eq_getElem hlt⟩
      obtain ⟨g, off, hA, hg, hc⟩ := HR.out k p hp
      have j0 : wr.cell? ⟨g, off + k * 2, none⟩ = some (.string p.1) := hc 0 _ rfl
      have j1 : wr.cell? ⟨g, off + k * 2 + 1, none⟩ = some (.int .i64 p.2) := hc 1 _ rfl
      have hlt2 : (k : Int) < (N.length : Int) := by omega
      have hpl : (N.zipIdx.take k).length < N.zipIdx.length := by rw [List.length_take, List.length_zipIdx]; omega
      have HP : Hid (N.zipIdx[k]? = some (p, k)) := by show _ = _; rw [List.getElem?_zipIdx, hp]; simp
      subst hA
      clear hp hc
      gi_upto_region 3 with fail
      have hol : Below wr.heap.size wr (wr.alloc (.cells #[.string p.1, .int .i64 p.2] 39)) := (Below.refl _ _).alloc (Nat.le_refl _) _
      have hK2 : KeepC M h0 wr (wr.alloc (.cells #[.string p.1, .int .i64 p.2] 39)) := KeepC.ofBelow hol (by omega)
      obtain ⟨fn, tmps, assign, body, hy, hR⟩ := hY (N.zipIdx.take k) (p, k) (wr.alloc (.cells #[.string p.1, .int .i64 p.2] 39)) (abide (fun s A B row a g r => hJ s A B row a g (fun q e => by have := r q e; omega)) hJs hol) hpl
      dsimp only [encE] at hy
      gi_wp2_with fail
      refine ⟨(fun hd => by cases hd), hR.mono ?_⟩
      rintro e W3 (⟨rfl, hJ3, hk3⟩ | ⟨rfl, hJx3⟩)
      · have hR3 : Hid (RowAt encN 2 W3 w1.heap.size (some ⟨g, off, none⟩) N) := row_keepC (row_keepC HR.out HF1.out hK2) HF1.out hk3
        have hz3 : w1.heap.size ≤ W3.heap.size := by have := hk3.below.size; have := hol.size; omega
        gi_wp2_with fail
        go_roundw
        case rel => exact ⟨k + 1, by omega, by go_num, by rw [take_snoc HP.out]; exact hJ3, (hkr.trans hK2).trans hk3, hR3, hz3⟩
        case measure => simp [intOf]; omega
      · gi_wp2_with fail
        refine bodyPost_ret (results_none rfl _ _ _) rfl ?_
        exact ⟨⟨_, rfl⟩, .inr ⟨_, ⟨N.zipIdx.drop (k + 1), by rw [← take_snoc HP.out, List.take_append_drop]⟩, hJx3⟩⟩
    · obtain rfl : k = N.length := by omega
      gi_wp2_with fail
      go_end0
      exact ⟨⟨_, rfl⟩, .inl ⟨_, rfl, by rw [List.take_of_length_le (by rw [List.length_zipIdx]; exact Nat.le_refl _)] at hJs; exact hJs⟩⟩

theorem each1_stops (b L P U um : Nat) (v : Value) (N : List Nt) (n Bx M : Nat) (hBx : Bx < M) (W0 : World) (hhi : M ≤ W0.heap.size)
    (h1 : Hid (W0.heap[Bx]? = some (.cells #[.pointer (some ⟨L, 0, none⟩)] 24 (0, 0)))) (hl : Led b W0 L P U v N [] false um) :
    SeqStopsK Fence.wide n Tryd.prog 43 #[.pointer (some ⟨Bx, 0, none⟩)] encE (KeepC M W0.heap.size) (fun ys => ys = N.zipIdx) (fun pre => pre <+: N.zipIdx) N.zipIdx.length W0 := fun lf J Jx W hW hJ _ hY h0 =>
  each1_in b L P U um v N n lf Bx M W0.heap.size hBx J Jx W hJ hY (Nat.le_trans hhi hW.size) hW.size ((hW.block _ (Nat.lt_of_lt_of_le hBx hhi)).trans h1.out) (hl.below hW) h0

end Go.Proofs.YtodlbfekoohpoaaDoor
