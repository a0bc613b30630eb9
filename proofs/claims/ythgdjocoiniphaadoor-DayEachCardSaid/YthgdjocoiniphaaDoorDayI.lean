/- A set's days, one by one: the iterator's walk. -/
import Derived.Test.YthgdjocoiniphaaDoorDayZ
namespace Go.Proofs.YthgdjocoiniphaaDoor
open Go.RowKit Go.Shelf
attribute [local go_sem] Oper.semAt_some

/-- all below m stays, and every block of cells from h0 on -/
structure KeepC (m h0 : Nat) (W W' : World) : Prop where
  below : Below m W W'
  cells : ∀ k cs t z, h0 ≤ k → W.heap[k]? = some (.cells cs t z) → W'.heap[k]? = some (.cells cs t z)
theorem KeepC.refl (m h0 : Nat) (W : World) : KeepC m h0 W W := ⟨Below.refl _ _, fun _ _ _ _ _ h => h⟩
theorem KeepC.trans {m h0 : Nat} {A B C : World} (h : KeepC m h0 A B) (k : KeepC m h0 B C) : KeepC m h0 A C := ⟨h.below.trans k.below, fun i cs t z hi e => k.cells i cs t z hi (h.cells i cs t z hi e)⟩
theorem KeepC.ofBelow {m h0 : Nat} {W W' : World} (h : Below W.heap.size W W') (hm : m ≤ W.heap.size) : KeepC m h0 W W' := ⟨h.mono hm, fun k _ _ _ _ e => (h.block k (Array.getElem?_eq_some_iff.1 e).1).trans e⟩
theorem KeepC.only {m h0 : Nat} {L : List Nat} {W W' : World} (h : OnlyL L W W') (hm : m ≤ W.heap.size) (hL : ∀ k ∈ L, m ≤ k ∧ k < h0) : KeepC m h0 W W' :=
  ⟨h.below hm (fun k e => (hL k e).1), fun k _ _ _ hk e => (h.block k (Array.getElem?_eq_some_iff.1 e).1 (fun hm => by have := hL k hm; omega)).trans e⟩
theorem keepC_b {m h0 : Nat} {w : World} (hm : m ≤ w.heap.size) (W : World) (l : Nat) (o o' : Obj) (hl : w.heap.size ≤ l) (h : W.heap[l]? = some o) (hc : o.isCells = false) (_ : o.isWalk = false) : KeepC m h0 W (W.putObj l o') :=
  ⟨(Below.refl m W).grown (grownBy_putObj' W l o') (by have := (Array.getElem?_eq_some_iff.1 h).1; omega) (fun k e => by cases e; omega), fun k cs t z _ e => ((grownBy_putObj' W l o').block k (Array.getElem?_eq_some_iff.1 e).1 (fun e2 => by injection e2 with e2; subst e2; rw [e] at h; cases h; cases hc)).trans e⟩

/-- days from f on -/
def spanD (f : Int) : Nat → List Int
  | 0 => []
  | k + 1 => spanD f k ++ [f + k]
def nD (p : Pc Unit) : Nat := (p.t - p.f).toNat
/-- all days, rising -/
def daysL (l : List (Pc Unit)) : List Int := l.flatMap (fun p => spanD p.f (nD p))
theorem spanD_len (f : Int) (k : Nat) : (spanD f k).length = k := by
  induction k with
  | zero => rfl
  | succ k ih => rw [spanD, List.length_append, ih]; rfl
theorem daysL_snoc {l : List (Pc Unit)} {k : Nat} {p : Pc Unit} (hp : l[k]? = some p) : daysL (l.take (k + 1)) = daysL (l.take k) ++ spanD p.f (nD p) := by
  unfold daysL; rw [take_snoc hp, List.flatMap_append]; simp
theorem daysL_split {l : List (Pc Unit)} {k : Nat} {p : Pc Unit} (hp : l[k]? = some p) (j : Nat) (hj : j ≤ nD p) : daysL (l.take k) ++ spanD p.f j <+: daysL l := by
  have h1 : l = l.take (k + 1) ++ l.drop (k + 1) := (List.take_append_drop _ _).symm
  have h2 : daysL l = daysL (l.take (k + 1)) ++ daysL (l.drop (k + 1)) := by
    conv => lhs; rw [h1]
    unfold daysL; rw [List.flatMap_append]
  have h3 : ∀ d, spanD p.f j <+: spanD p.f (j + d) := fun d => by
    induction d with
    | zero => exact List.prefix_rfl
    | succ d ih => exact ih.trans ⟨_, rfl⟩
  rw [h2, daysL_snoc hp, List.append_assoc]
  refine (List.prefix_append_right_inj _).2 (List.IsPrefix.trans ?_ (List.prefix_append _ _))
  have := h3 (nD p - j)
  rwa [show j + (nD p - j) = nD p by omega] at this

set_option maxRecDepth 100000 in
set_option maxHeartbeats 8000000 in
theorem days1_in (l : List (Pc Unit)) (A : Option Addr) (c : Nat) (hm : l.length ≤ 1000) (hv : ∀ p ∈ l, ValidS MD p) (n lf Bx M h0 : Nat) (_hBx : Bx < M) (J Jx : List Int → World → Prop) (W : World) (hJ : AbidesFrom W.heap.size J)
    (hY : ∀ pre y W1, J pre W1 → pre.length < (daysL l).length → YieldAt Fence.wide (n - 1) Tryd.prog lf #[.int .i64 y] W1 fun e W' => (e = .returned (.bool true) ∧ J (pre ++ [y]) W' ∧ KeepC M h0 W1 W') ∨ (e = .returned (.bool false) ∧ Jx (pre ++ [y]) W'))
    (hhi : M ≤ W.heap.size) (hh0 : h0 ≤ W.heap.size) (h1 : Hid (W.heap[Bx]? = some (.cells #[.slice A l.length c] 77 (0, 0)))) (hl : RowAt encU 2 W M A l) (hj0 : J [] W) :
    CallsIn Fence.wide n Tryd.prog 114 #[.func (.yield lf) #[] #[], .pointer (some ⟨Bx, 0, none⟩)] W fun e W' => (∃ v, e = .returned v) ∧
      ((∃ ys, ys = daysL l ∧ J ys W') ∨ (∃ pre, pre <+: daysL l ∧ Jx pre W')) := by
  have HL := Lib.hid hl
  have HV := Lib.hid hv
  clear hl hv
  refine callsIn_of_wp Tryd.func114 rfl trivial ?_ rfl; simp only [Tryd.ntmps114, List.size_toArray, List.length_cons, List.length_nil, Nat.reduceAdd, Nat.reduceSub, Array.replicate_succ, Array.replicate_zero, List.push_toArray, List.append_toArray, List.nil_append, List.cons_append]
  have c1 := cellH h1
  have l1 := lt_of_H h1
  gi_wp2
  gi_loopw [9] (fun i wr => ∃ k : Nat, k ≤ l.length ∧ i = .int .i64 k ∧ J (daysL (l.take k)) wr ∧ KeepC M h0 W wr) (fun i _ => l.length - (intOf i).toNat)
  case atStart => exact ⟨0, Nat.zero_le _, rfl, hj0, KeepC.refl _ _ _⟩
  case round =>
    clear c1
    obtain ⟨k, hk, rfl, hJs, hkr⟩ := hrel
    have hsz : W.heap.size ≤ wr.heap.size := hkr.below.size
    by_cases hlt : k < l.length
    · obtain ⟨p, hp⟩ : ∃ p, l[k]? = some p := ⟨l[k], List.getElem?_eq_getElem hlt⟩
      obtain ⟨g, off, rfl, hg, j0, j1⟩ := cells2 (HL.out.below hkr.below (Nat.le_refl _)) hp
      obtain ⟨v1, v2, v3⟩ := HV.out p (List.mem_of_getElem? hp)
      dsimp only [MD] at v3
      have hlt2 : (k : Int) < (l.length : Int) := by omega
      have HSN := Lib.hid (daysL_snoc hp)
      have HSP := Lib.hid (daysL_split hp)
      clear hp
      gi_wp2_with fail
      have hol : Below wr.heap.size wr (wr.alloc (.cells #[.int .i64 p.f, .int .i64 p.t] 70)) := (Below.refl _ _).alloc (Nat.le_refl _) _
      have hJ1 := abide hJ hJs hol
      have hK1 : KeepC M h0 W (wr.alloc (.cells #[.int .i64 p.f, .int .i64 p.t] 70)) := hkr.trans (KeepC.ofBelow hol (by omega))
      obtain ⟨gx, hgx⟩ : ∃ g, wr.heap.size = g := ⟨_, rfl⟩
      have XB : Hid ((wr.alloc (.cells #[.int .i64 p.f, .int .i64 p.t] 70)).heap[gx]? = some (.cells #[.int .i64 p.f, .int .i64 p.t] 70 (0, 0))) := blk_new hgx
      have hgz : h0 ≤ gx := by omega
      rw [hgx]
      gi_loopw [5] (fun v wr => ∃ j : Nat, j ≤ nD p ∧ v = .int .i64 (p.f + j) ∧ J (daysL (l.take k) ++ spanD p.f j) wr ∧ Hid (wr.heap[gx]? = some (.cells #[.int .i64 p.f, .int .i64 p.t] 70 (0, 0))) ∧ KeepC M h0 W wr) (fun v _ => (p.t - intOf v).toNat)
      case atStart => exact ⟨0, Nat.zero_le _, by simp, by simpa [spanD] using hJ1, XB, hK1⟩
      case round =>
        clear XB hkr hsz hJs hJ1 hK1
        obtain ⟨j, hj, rfl, hJs, XB, hkr⟩ := hrel
        have hsz : W.heap.size ≤ wr.heap.size := hkr.below.size
        have cX := cellH XB
        have lX := lt_of_H XB
        by_cases hlt3 : j < nD p
        · have hlt4 : p.f + (j : Int) < p.t := by unfold nD at hlt3; omega
          have HLT4 := Lib.hid hlt4
          have e1 : decide (p.f + (j : Int) < p.t) = true := decide_eq_true hlt4
          clear hlt4
          have hjb : p.f + (j : Int) < 3652059 := by have := HLT4.out; omega
          have hpl : (daysL (l.take k) ++ spanD p.f j).length < (daysL l).length := by
            have h := (HSP.out (j + 1) (by omega)).length_le
            rw [spanD, ← List.append_assoc, List.length_append] at h
            simp only [List.length_singleton] at h
            omega
          gi_upto_region 6 with fail
          obtain ⟨fn, tmps, assign, body, hy, hR⟩ := hY _ (p.f + j) wr hJs hpl
          gi_wp2_with fail
          refine ⟨(fun hd => by cases hd), hR.mono ?_⟩
          rintro e W3 (⟨rfl, hJ3, hk3⟩ | ⟨rfl, hJx3⟩)
          · have XB3 : Hid (W3.heap[gx]? = some (.cells #[.int .i64 p.f, .int .i64 p.t] 70 (0, 0))) := hk3.cells _ _ _ _ hgz XB.out
            gi_wp2_with fail
            go_roundw
            case rel => exact ⟨j + 1, by omega, by go_num, by rw [spanD, ← List.append_assoc]; exact hJ3, XB3, hkr.trans hk3⟩
            case measure => (have := HLT4.out; simp [intOf]; omega)
          · gi_wp2_with fail
            refine bodyPost_ret (results_none rfl _ _ _) rfl ?_
            exact ⟨⟨_, rfl⟩, .inr ⟨_, by have h := HSP.out (j + 1) (by omega); rw [spanD, ← List.append_assoc] at h; exact h, hJx3⟩⟩
        · obtain rfl : j = nD p := by omega
          have e1 : decide (p.f + ((nD p : Nat) : Int) < p.t) = false := decide_eq_false (by unfold nD; omega)
          gi_wp2_with fail
          go_roundw
          case rel => exact ⟨k + 1, by omega, by go_num, by rw [HSN.out]; exact hJs, hkr⟩
          case measure => simp [intOf]; omega
    · obtain rfl : k = l.length := by omega
      gi_wp2_with fail
      go_end0
      exact ⟨⟨_, rfl⟩, .inl ⟨_, rfl, by rw [List.take_length] at hJs; exact hJs⟩⟩

theorem days1_stops (l : List (Pc Unit)) (A : Option Addr) (c : Nat) (hm : l.length ≤ 1000) (hv : ∀ p ∈ l, ValidS MD p) (n Bx M : Nat) (hBx : Bx < M) (W0 : World) (hhi : M ≤ W0.heap.size)
    (h1 : Hid (W0.heap[Bx]? = some (.cells #[.slice A l.length c] 77 (0, 0)))) (hl : RowAt encU 2 W0 M A l) :
    SeqStopsK Fence.wide n Tryd.prog 114 #[.pointer (some ⟨Bx, 0, none⟩)] (fun x : Int => #[.int .i64 x]) (KeepC M W0.heap.size) (fun ys => ys = daysL l) (fun pre => pre <+: daysL l) (daysL l).length W0 := fun lf J Jx W hW hJ _ hY h0 =>
  days1_in l A c hm hv n lf Bx M W0.heap.size hBx J Jx W hJ hY (Nat.le_trans hhi hW.size) hW.size ((hW.block _ (Nat.lt_of_lt_of_le hBx hhi)).trans h1.out) (hl.below (hW.mono (Nat.le_refl _)) hhi) h0

end Go.Proofs.YthgdjocoiniphaaDoor
