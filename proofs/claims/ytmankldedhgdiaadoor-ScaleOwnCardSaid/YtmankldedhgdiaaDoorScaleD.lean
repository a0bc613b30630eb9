/- The scale at an amount: At: walk. -/
import Derived.Test.YtmankldedhgdiaaDoorScaleC
namespace Go.Proofs.YtmankldedhgdiaaDoor
open Go.RowKit Go.Shelf
attribute [local go_sem] Oper.semAt_some

/-- a sum of parts, an error ends it -/
def foldO : Rat → List (Option GQ) → Except Nat Rat
  | a, [] => .ok a
  | _, none :: _ => .error 5
  | a, some p :: r => if Good (a + p.1) then foldO (a + p.1) r else .error 5

def fracB (b : BI) : Rat × Rat := (Rat.divInt b.1 b.2.1, Rat.divInt b.2.2.1 b.2.2.2)

theorem fracB_bR (gs : List (Rat × Rat)) : (gs.map bR).map fracB = gs := by
  rw [List.map_map]
  have h : (fracB ∘ bR) = id := by funext x; show (Rat.divInt _ _, Rat.divInt _ _) = x; show (Rat.divInt x.1.num x.1.den, Rat.divInt x.2.num x.2.den) = x; rw [Rat.num_divInt_den, Rat.num_divInt_den]
  rw [h, List.map_id]

/-- what At answers -/
def atI (s : List BI) (n d : Int) : Except Nat Rat :=
  match askE s n d with
  | some g => .error g
  | none => foldO 0 (bearsO (Rat.divInt n d) (s.map fracB))

theorem atI_err {s : List BI} {n d : Int} {g : Nat} (h : askE s n d = some g) : atI s n d = .error g := by unfold atI; rw [h]
theorem atI_good {gs : List (Rat × Rat)} {x : Rat} (h : askE (gs.map bR) x.num x.den = none) : atI (gs.map bR) x.num x.den = foldO 0 (bearsO x gs) := by unfold atI; rw [h, fracB_bR, Rat.num_divInt_den]

theorem foldO_snoc_none {a b : Rat} {l : List (Option GQ)} (h : foldO a l = .ok b) : foldO a (l ++ [none]) = .error 5 := by
  induction l generalizing a with
  | nil => rfl
  | cons o r ih => cases o with
    | none => cases h
    | some p =>
      unfold foldO at h
      split at h
      · rename_i hg; rw [List.cons_append, foldO, if_pos hg]; exact ih h
      · cases h
theorem foldO_snoc {a b : Rat} {l : List (Option GQ)} (h : foldO a l = .ok b) (p : GQ) : foldO a (l ++ [some p]) = if Good (b + p.1) then .ok (b + p.1) else .error 5 := by
  induction l generalizing a with
  | nil => cases h; rfl
  | cons o r ih => cases o with
    | none => cases h
    | some q =>
      unfold foldO at h
      split at h
      · rename_i hg; rw [List.cons_append, foldO, if_pos hg]; exact ih h
      · cases h
theorem foldO_err {a : Rat} {l m : List (Option GQ)} {g : Nat} (h : foldO a l = .error g) (hp : l <+: m) : foldO a m = .error g := by
  obtain ⟨t, rfl⟩ := hp
  induction l generalizing a with
  | nil => cases h
  | cons o r ih => cases o with
    | none => exact h
    | some p =>
      unfold foldO at h
      split at h
      · rename_i hg; rw [List.cons_append, foldO, if_pos hg]; exact ih h
      · rename_i hg; rw [List.cons_append, foldO, if_neg hg]; exact h

theorem resF_of {E : Nat → Addr} {r : Except Nat Rat} {q : Rat} (h : r = .ok q) : ResF E r q.num q.den .nilIface := by subst h; exact ⟨rfl, rfl, rfl⟩
theorem resF_fail {E : Nat → Addr} {r : Except Nat Rat} {g : Nat} (h : r = .error g) : ResF E r 0 0 (.iface 122 (.pointer (some (E g)))) := by subst h; exact ⟨rfl, rfl, rfl⟩

/-- the loop of At: what holds behind the parts pre -/
def AtI (w : World) (K S R4 R5 : Nat) (pre : List (Option GQ)) (W : World) : Prop :=
  ∃ a, foldO 0 pre = .ok a ∧ Good a ∧ K ≤ W.heap.size ∧ W.heap[S]? = some (.cells #[.int .i64 a.num, .int .i64 a.den] 24 (0, 0)) ∧ W.heap[R4]? = some (.cells #[.int .i64 0, .int .i64 0] 24 (0, 0)) ∧ W.heap[R5]? = some (.cells #[.nilIface] 34 (0, 0)) ∧ Below w.heap.size w W
/-- it has been left early -/
def AtX (E : Nat → Addr) (w : World) (R4 R5 : Nat) (c : Code) (pre : List (Option GQ)) (W : World) : Prop :=
  c = .ret ∧ foldO 0 pre = .error 5 ∧ W.heap[R4]? = some (.cells #[.int .i64 0, .int .i64 0] 24 (0, 0)) ∧ W.heap[R5]? = some (.cells #[(.iface 122 (.pointer (some (E 5))))] 34 (0, 0)) ∧ Below w.heap.size w W
theorem AtI_own (w : World) (K S R4 R5 : Nat) {B : Nat} (hB : w.heap.size ≤ B) : OwnFrom B (AtI w K S R4 R5) := fun _ W W' row ⟨a, h1, h2, h0, h3, h4, h5, h6⟩ hg hr =>
  ⟨a, h1, h2, Nat.le_trans h0 hg.size, ownBlk h3 hg hr, ownBlk h4 hg hr, ownBlk h5 hg hr, ownFrom_below (β := Unit) (Nat.le_refl _) hB () W W' row h6 hg hr⟩
theorem AtX_own (E : Nat → Addr) (w : World) (R4 R5 : Nat) (c : Code) {B : Nat} (hB : w.heap.size ≤ B) : OwnFrom B (AtX E w R4 R5 c) := fun _ W W' row ⟨h1, h2, h4, h5, h6⟩ hg hr =>
  ⟨h1, h2, ownBlk h4 hg hr, ownBlk h5 hg hr, ownFrom_below (β := Unit) (Nat.le_refl _) hB () W W' row h6 hg hr⟩

set_option maxRecDepth 100000 in
set_option maxHeartbeats 8000000 in
theorem at15_any (s : List BI) (A : Option Addr) (c : Nat) (n d : Int) (E : Nat → Addr) (w : World) (hl : RowAt encR 4 w w.heap.size A s) (hm : s.length ≤ 9223372036854775807) (hI : ∀ b ∈ s, In4 b) (Bn : -9223372036854775808 ≤ n ∧ n ≤ 9223372036854775807) (Bd : -9223372036854775808 ≤ d ∧ d ≤ 9223372036854775807) (hE : Env LC E w) :
    Calls Tryd.prog 20 #[.slice A s.length c, .agg #[.int .i64 n, .int .i64 d]] w fun e w' =>
      (∃ n' d' err, e = .returned (.tuple #[.agg #[.int .i64 n', .int .i64 d'], err]) ∧ ResF E (atI s n d) n' d' err) ∧ Below w.heap.size w w' := by
  have HASK := Lib.hid (fun w' (h : Below w.heap.size w w') => ask15_any s A c n d E w' ((hl.below h (Nat.le_refl _)).more h.size) hm hI Bn Bd (hE.below h))
  cases hs : askE s n d
  · obtain ⟨hs1, hv⟩ := askE_none hs
    obtain ⟨gs, rfl, hgood, hlen, hpos, _⟩ := scaleE_none hs1
    obtain ⟨x, hx, rfl, rfl⟩ := good_of_validB hv
    have HATI := Lib.hid (atI_good hs)
    rw [List.length_map] at *
    have HS := Lib.hid hs
    have HE := Lib.hid hE
    have HG := Lib.hid hgood
    have HL := Lib.hid hl
    have HX := Lib.hid hx
    clear hs hs1 hv hI hgood hE hl hx hpos hm Bn Bd
    refine (callsIn_wide (n := 3)).1 ?_; refine callsIn_of_wp_marks Tryd.func20 rfl trivial ?_ rfl; simp only [Tryd.ntmps20, List.size_toArray, List.length_cons, List.length_nil, Nat.reduceAdd, Nat.reduceSub, Array.replicate_succ, Array.replicate_zero, List.push_toArray, List.append_toArray, List.nil_append, List.cons_append]
    gi_wp2_with fail
    first | refine wide_open ?_ | refine wide_open2 ?_
    refine (HASK.out _ (by (repeat' (first | with_reducible exact Below.refl _ _ | with_reducible assumption | with_reducible refine Below.drew ?_ | with_reducible refine below_drewN ?_ _ | with_reducible refine Below.setCell ?_ ?_ _ | with_reducible refine Below.alloc ?_ ?_ _ | omega | (simp; done) | (simp; omega))))).mono ?_
    rintro e w1 ⟨rfl, hb1⟩
    have hw1 : Below w.heap.size w w1 := stepH (by (repeat' (first | with_reducible exact Below.refl _ _ | with_reducible assumption | with_reducible refine Below.drew ?_ | with_reducible refine below_drewN ?_ _ | with_reducible refine Below.setCell ?_ ?_ _ | with_reducible refine Below.alloc ?_ ?_ _ | omega | (simp; done) | (simp; omega)))) hb1
    rw [HS.out]
    unfold errV
    have X := keepH hb1 (g := w.heap.size) (blk_old (blk_old (blk_new rfl)))
    have R4 := keepH hb1 (g := w.heap.size + 1) (blk_old (blk_new (by simp)))
    have E5 := keepH hb1 (g := w.heap.size + 1 + 1) (blk_new (by simp))
    have z1 := hw1.size
    clear hb1
    have cX := cellH X
    obtain ⟨lX, lX1, lX2⟩ := ltH X
    have cR4 := cellH R4
    obtain ⟨lR4, lR41, lR42⟩ := ltH R4
    have cE5 := cellH E5
    obtain ⟨lE5, lE51, lE52⟩ := ltH E5
    gi_wp2_with fail
    first | refine wide_open ?_ | refine wide_open2 ?_
    refine (zero15_any _).mono ?_
    rintro e w2 ⟨rfl, hb2⟩
    have hw2 : Below w.heap.size w w2 := stepH (by (repeat' (first | with_reducible exact Below.refl _ _ | with_reducible assumption | with_reducible refine Below.drew ?_ | with_reducible refine below_drewN ?_ _ | with_reducible refine Below.setCell ?_ ?_ _ | with_reducible refine Below.alloc ?_ ?_ _ | omega | (simp; done) | (simp; omega)))) hb2
    replace X := keepH hb2 X.out
    replace R4 := keepH hb2 R4.out
    replace E5 := keepH hb2 E5.out
    have z2 := hw2.size
    clear hb2 hw1 z1
    clear cX lX lX1 lX2 cR4 lR4 lR41 lR42 cE5 lE5 lE51 lE52
    have cX := cellH X
    obtain ⟨lX, lX1, lX2⟩ := ltH X
    have cR4 := cellH R4
    obtain ⟨lR4, lR41, lR42⟩ := ltH R4
    have cE5 := cellH E5
    obtain ⟨lE5, lE51, lE52⟩ := ltH E5
    gi_wp2_with fail
    first | refine wide_open ?_ | refine wide_open2 ?_
    refine (bears_any _ _ _ _ _ _).mono ?_
    rintro e w9 ⟨rfl, rfl⟩
    have hz2 : w.heap.size + 1 + 1 < w2.heap.size := lt_of_H E5
    gi_wp2_with fail
    have hw3 : Below w.heap.size w (((w2.alloc (.cells #[.int .i64 0, .int .i64 1] 24)).alloc (.cells #[.slice A gs.length c] 22)).alloc (.cells #[.int .i64 x.num, .int .i64 x.den] 24)) := by (repeat' (first | with_reducible exact Below.refl _ _ | with_reducible assumption | with_reducible refine Below.drew ?_ | with_reducible refine below_drewN ?_ _ | with_reducible refine Below.setCell ?_ ?_ _ | with_reducible refine Below.alloc ?_ ?_ _ | omega | (simp; done) | (simp; omega)))
    replace X : Hid ((((w2.alloc (.cells #[.int .i64 0, .int .i64 1] 24)).alloc (.cells #[.slice A gs.length c] 22)).alloc (.cells #[.int .i64 x.num, .int .i64 x.den] 24)).heap[w.heap.size]? = some (.cells #[.int .i64 x.num, .int .i64 x.den] 24 (0, 0))) := (blk_old (blk_old (blk_old X.out)))
    replace R4 : Hid ((((w2.alloc (.cells #[.int .i64 0, .int .i64 1] 24)).alloc (.cells #[.slice A gs.length c] 22)).alloc (.cells #[.int .i64 x.num, .int .i64 x.den] 24)).heap[w.heap.size + 1]? = some (.cells #[.int .i64 0, .int .i64 0] 24 (0, 0))) := (blk_old (blk_old (blk_old R4.out)))
    replace E5 : Hid ((((w2.alloc (.cells #[.int .i64 0, .int .i64 1] 24)).alloc (.cells #[.slice A gs.length c] 22)).alloc (.cells #[.int .i64 x.num, .int .i64 x.den] 24)).heap[w.heap.size + 1 + 1]? = some (.cells #[.nilIface] 34 (0, 0))) := (blk_old (blk_old (blk_old E5.out)))
    have Sm : Hid ((((w2.alloc (.cells #[.int .i64 0, .int .i64 1] 24)).alloc (.cells #[.slice A gs.length c] 22)).alloc (.cells #[.int .i64 x.num, .int .i64 x.den] 24)).heap[w2.heap.size]? = some (.cells #[.int .i64 0, .int .i64 1] 24 (0, 0))) := (blk_old (blk_old (blk_new rfl)))
    have Sb : Hid ((((w2.alloc (.cells #[.int .i64 0, .int .i64 1] 24)).alloc (.cells #[.slice A gs.length c] 22)).alloc (.cells #[.int .i64 x.num, .int .i64 x.den] 24)).heap[w2.heap.size + 1]? = some (.cells #[.slice A gs.length c] 22 (0, 0))) := (blk_old (blk_new (by simp)))
    have Xb : Hid ((((w2.alloc (.cells #[.int .i64 0, .int .i64 1] 24)).alloc (.cells #[.slice A gs.length c] 22)).alloc (.cells #[.int .i64 x.num, .int .i64 x.den] 24)).heap[w2.heap.size + 1 + 1]? = some (.cells #[.int .i64 x.num, .int .i64 x.den] 24 (0, 0))) := (blk_new (by simp))
    clear cX lX lX1 lX2 cR4 lR4 lR41 lR42 cE5 lE5 lE51 lE52
    generalize (((w2.alloc (.cells #[.int .i64 0, .int .i64 1] 24)).alloc (.cells #[.slice A gs.length c] 22)).alloc (.cells #[.int .i64 x.num, .int .i64 x.den] 24)) = w3 at *
    have z3 := hw3.size
    have cX := cellH X
    obtain ⟨lX, lX1, lX2⟩ := ltH X
    have cR4 := cellH R4
    obtain ⟨lR4, lR41, lR42⟩ := ltH R4
    have cE5 := cellH E5
    obtain ⟨lE5, lE51, lE52⟩ := ltH E5
    have cSm := cellH Sm
    obtain ⟨lSm, lSm1, lSm2⟩ := ltH Sm
    have cSb := cellH Sb
    obtain ⟨lSb, lSb1, lSb2⟩ := ltH Sb
    have cXb := cellH Xb
    obtain ⟨lXb, lXb1, lXb2⟩ := ltH Xb
    clear cX lX lX1 lX2 cR4 lR4 lR41 lR42 cE5 lE5 lE51 lE52 cSm lSm lSm1 lSm2 cSb lSb lSb1 lSb2 cXb lXb lXb1 lXb2
    have hzL : w2.heap.size + 1 + 1 < w3.heap.size := lt_of_H Xb
    have hwL : w.heap.size ≤ w3.heap.size := by omega
    refine wpIn_rangeFunc_ownH rfl (by decide) (gf := 52) (lb := #[.pointer (some ⟨w2.heap.size + 1, 0, none⟩), .pointer (some ⟨w2.heap.size + 1 + 1, 0, none⟩)]) rfl trivial (enters_of Tryd.func52 (by kernel_rfl) rfl)
      (bears_stops gs x A c E w HX.out HG.out hlen HL.out HE.out (3 - 1) (w2.heap.size + 1) (w2.heap.size + 1) (w2.heap.size + 1 + 1) (w2.heap.size + 1 + 1 + 1) ⟨Nat.le_refl _, by omega⟩ ⟨by omega, by omega⟩ w3 hw3 (by omega) Sb Xb)
      KeepR.trans (keepR_b hwL (by omega)) (Below.refl _ _) (encO_size E)
      (AtI w w3.heap.size w2.heap.size (w.heap.size + 1) (w.heap.size + 1 + 1)) (AtX E w (w.heap.size + 1) (w.heap.size + 1 + 1)) (AtI_own w _ _ _ _ hwL) (fun c => AtX_own E w _ _ c hwL)
      ⟨0, rfl, good_zero, Nat.le_refl _, Sm.out, R4.out, E5.out, hw3⟩
      (fun y a' W => ∃ (Bp : Nat) (n d : Int) (v : Value), encO E y = #[.agg #[.int .i64 n, .int .i64 d], v] ∧ w3.heap.size ≤ Bp ∧ W.heap[Bp]? = some (.cells #[.int .i64 n, .int .i64 d] 24 (0, 0)) ∧ a' = { tmps := #[.slice A gs.length c, .agg #[.int .i64 x.num, .int .i64 x.den], undef, .pointer (some ⟨w.heap.size, 0, none⟩), .pointer (some ⟨w.heap.size + 1, 0, none⟩), .pointer (some ⟨w.heap.size + 1 + 1, 0, none⟩), .nilIface, .pointer (some ⟨w2.heap.size, 0, none⟩), .pointer (some ⟨Bp, 0, none⟩), v, .slice A gs.length c, .agg #[.int .i64 x.num, .int .i64 x.den], .nilIface, .nilIface, .bool false, undef, undef, .agg #[.int .i64 0, .int .i64 1], .slice A gs.length c, .agg #[.int .i64 x.num, .int .i64 x.den], .func (.func 52) #[] #[.pointer (some ⟨w2.heap.size + 1, 0, none⟩), .pointer (some ⟨w2.heap.size + 1 + 1, 0, none⟩)], .agg #[.int .i64 n, .int .i64 d], v, undef, undef, undef, undef, undef, undef, undef, undef, undef, undef, undef, undef, undef, undef, undef], defers := [] })
      (fun y a' s W W' row hs hg hr => by obtain ⟨Bp, n, d, v, h1, h2, h3, h4⟩ := hs; exact ⟨Bp, n, d, v, h1, h2, ownBlk h3 hg hr, h4⟩) ?assign ?body ?done ?stop
    case assign =>
      intro l pre y W K hI hK
      obtain ⟨n, d, v, hy⟩ : ∃ (n d : Int) (v : Value), encO E y = #[.agg #[.int .i64 n, .int .i64 d], v] := by cases y with
        | none => exact ⟨_, _, _, rfl⟩
        | some q => exact ⟨_, _, _, rfl⟩
      rw [hy]
      obtain ⟨a, i1, i2, i0, i3, i4, i5, i6⟩ := hI
      gi_wp2_with fail
      exact hK _ _ ((KeepsOthers.alloc _ _).from _) (KeepR.ofBelow ((Below.refl _ _).alloc (Nat.le_refl _) _) i6.size (by omega)) ⟨a, i1, i2, (by simp; omega), blk_old i3, blk_old i4, blk_old i5, i6.alloc (by omega) _⟩ ⟨_, n, d, v, hy, by omega, blk_new rfl, rfl⟩
    case body =>
      rintro l pre y a' wq hl ⟨r, hr⟩ ⟨a, i1, i2, i0, i3, i4, i5, hwq⟩ ⟨Bp, n, d, v, h1, h2, h3, rfl⟩ hlt
      have zq := hwq.size
      clear hr hl hlt Sm R4 E5 Sb Xb X
      have Sm : Hid (wq.heap[w2.heap.size]? = some (.cells #[.int .i64 a.num, .int .i64 a.den] 24 (0, 0))) := i3
      have R4 : Hid (wq.heap[w.heap.size + 1]? = some (.cells #[.int .i64 0, .int .i64 0] 24 (0, 0))) := i4
      have E5 : Hid (wq.heap[w.heap.size + 1 + 1]? = some (.cells #[.nilIface] 34 (0, 0))) := i5
      have P : Hid (wq.heap[Bp]? = some (.cells #[.int .i64 n, .int .i64 d] 24 (0, 0))) := h3
      have I1 := Lib.hid i1
      have IA := Lib.hid i2
      clear i1 i2 i3 i4 i5 h3
      have HC3 : Hid (∀ k ∈ [w2.heap.size, w.heap.size + 1, w.heap.size + 1 + 1], ∃ cs t z, wq.heap[k]? = some (.cells cs t z)) := by
        intro k hk
        simp only [List.mem_cons, List.not_mem_nil, or_false] at hk
        rcases hk with rfl | rfl | rfl
        · exact ⟨_, _, _, Sm.out⟩
        · exact ⟨_, _, _, R4.out⟩
        · exact ⟨_, _, _, E5.out⟩
      have HC4 : Hid (∀ k ∈ [w2.heap.size, w.heap.size + 1, w.heap.size + 1 + 1], w.heap.size ≤ k ∧ (k < w2.heap.size + 1 ∨ w2.heap.size + 1 + 1 + 1 ≤ k)) := by
        intro k hk
        simp only [List.mem_cons, List.not_mem_nil, or_false] at hk
        rcases hk with rfl | rfl | rfl <;> omega
      have q1 : w2.heap.size ≠ w.heap.size + 1 := by omega
      have q2 : w2.heap.size ≠ w.heap.size + 1 + 1 := by omega
      have q3 : w.heap.size + 1 ≠ w.heap.size + 1 + 1 := by omega
      have q4 : Bp ≠ w2.heap.size := by omega
      have q5 : Bp ≠ w.heap.size + 1 := by omega
      have q6 : Bp ≠ w.heap.size + 1 + 1 := by omega
      cases y with
      | none =>
        obtain ⟨rfl, rfl, rfl⟩ : n = 0 ∧ d = 0 ∧ v = (.iface 122 (.pointer (some (E 5)))) := by
          have h := h1
          simp [encO] at h
          exact ⟨h.1.1.symm, h.1.2.symm, h.2.symm⟩
        have hen := fun w => eql_nil (E 5) w
        clear h1
        have cSm := cellH Sm
        obtain ⟨lSm, lSm1, lSm2⟩ := ltH Sm
        have cR4 := cellH R4
        obtain ⟨lR4, lR41, lR42⟩ := ltH R4
        have cE5 := cellH E5
        obtain ⟨lE5, lE51, lE52⟩ := ltH E5
        have cP := cellH P
        obtain ⟨lP, lP1, lP2⟩ := ltH P
        have fzSm := frozH Sm
        have fzR4 := frozH R4
        have fzE5 := frozH E5
        gi_wp2_with fail
        exact ⟨OnlyL.from (L := [w2.heap.size, w.heap.size + 1, w.heap.size + 1 + 1]) (by (repeat' (first | with_reducible exact OnlyL.refl _ _ | with_reducible assumption | with_reducible refine OnlyL.drew ?_ | with_reducible refine OnlyL.drewN ?_ _ | with_reducible refine OnlyL.setCell ?_ ?_ _ | with_reducible refine OnlyL.alloc ?_ _ | omega | (simp; done) | (simp; omega)))) _ HC3.out, rfl, foldO_snoc_none I1.out, setOther (setH2 R4.out).out (by dsimp only; omega), setBox (setOther (setOther E5.out (by dsimp only; omega)) (by dsimp only; omega)) _, by (repeat' (first | with_reducible exact Below.refl _ _ | with_reducible assumption | with_reducible refine Below.drew ?_ | with_reducible refine below_drewN ?_ _ | with_reducible refine Below.setCell ?_ ?_ _ | with_reducible refine Below.alloc ?_ ?_ _ | omega | (simp; done) | (simp; omega)))⟩
      | some q =>
        obtain ⟨rfl, rfl, rfl⟩ : n = q.1.num ∧ d = q.1.den ∧ v = .nilIface := by
          have h := h1
          simp [encO] at h
          exact ⟨h.1.1.symm, h.1.2.symm, h.2.symm⟩
        have HQ := Lib.hid q.2
        have hen := fun w => eql_nil (E 5) w
        clear h1
        have cSm := cellH Sm
        obtain ⟨lSm, lSm1, lSm2⟩ := ltH Sm
        have cR4 := cellH R4
        obtain ⟨lR4, lR41, lR42⟩ := ltH R4
        have cE5 := cellH E5
        obtain ⟨lE5, lE51, lE52⟩ := ltH E5
        have cP := cellH P
        obtain ⟨lP, lP1, lP2⟩ := ltH P
        gi_wp2_with fail
        first | refine round_open ?_ | refine round_open2 ?_ | refine round_open3 ?_ | refine round_open4 ?_
        refine (add_any a.num a.den q.1.num q.1.den E _ (bds IA.out).1 (bds IA.out).2.1 (bds IA.out).2.2.1 (bds IA.out).2.2.2 (bds HQ.out).1 (bds HQ.out).2.1 (bds HQ.out).2.2.1 (bds HQ.out).2.2.2 ((HE.out.below (by (repeat' (first | with_reducible exact Below.refl _ _ | with_reducible assumption | with_reducible refine Below.drew ?_ | with_reducible refine below_drewN ?_ _ | with_reducible refine Below.setCell ?_ ?_ _ | with_reducible refine Below.alloc ?_ ?_ _ | omega | (simp; done) | (simp; omega))))).sub (by decide))).mono ?_
        rintro e w21 ⟨⟨n', d', err, rfl, hr⟩, hb21⟩
        have hw21 : Below w.heap.size w w21 := stepH (by (repeat' (first | with_reducible exact Below.refl _ _ | with_reducible assumption | with_reducible refine Below.drew ?_ | with_reducible refine below_drewN ?_ _ | with_reducible refine Below.setCell ?_ ?_ _ | with_reducible refine Below.alloc ?_ ?_ _ | omega | (simp; done) | (simp; omega)))) hb21
        have ho21 : OnlyL [w2.heap.size, w.heap.size + 1, w.heap.size + 1 + 1] wq w21 := OnlyL.step (by (repeat' (first | with_reducible exact OnlyL.refl _ _ | with_reducible assumption | with_reducible refine OnlyL.drew ?_ | with_reducible refine OnlyL.drewN ?_ _ | with_reducible refine OnlyL.setCell ?_ ?_ _ | with_reducible refine OnlyL.alloc ?_ _ | omega | (simp; done) | (simp; omega)))) hb21
        replace Sm := keepH hb21 Sm.out
        replace R4 := keepH hb21 R4.out
        replace E5 := keepH hb21 E5.out
        replace P := keepH hb21 P.out
        have z21 := hw21.size
        clear hb21 hwq zq
        clear cSm lSm lSm1 lSm2 cR4 lR4 lR41 lR42 cE5 lE5 lE51 lE52 cP lP lP1 lP2
        have cSm := cellH Sm
        obtain ⟨lSm, lSm1, lSm2⟩ := ltH Sm
        have cR4 := cellH R4
        obtain ⟨lR4, lR41, lR42⟩ := ltH R4
        have cE5 := cellH E5
        obtain ⟨lE5, lE51, lE52⟩ := ltH E5
        have cP := cellH P
        obtain ⟨lP, lP1, lP2⟩ := ltH P
        have fzSm := frozH Sm
        have fzR4 := frozH R4
        have fzE5 := frozH E5
        rcases add_two IA.out HQ.out hr with ⟨hs, rfl, rfl, rfl⟩ | ⟨hs, rfl, rfl, rfl⟩
        all_goals clear hr
        · have HF : Hid (foldO 0 (pre ++ [some q]) = .ok (a + q.1)) := by show _ = _; rw [foldO_snoc I1.out, if_pos hs]
          gi_wp2_with fail
          exact ⟨OnlyL.from (L := [w2.heap.size, w.heap.size + 1, w.heap.size + 1 + 1]) (by (repeat' (first | with_reducible exact OnlyL.refl _ _ | with_reducible assumption | with_reducible refine OnlyL.drew ?_ | with_reducible refine OnlyL.drewN ?_ _ | with_reducible refine OnlyL.setCell ?_ ?_ _ | with_reducible refine OnlyL.alloc ?_ _ | omega | (simp; done) | (simp; omega)))) _ HC3.out, OnlyL.keepR (L := [w2.heap.size, w.heap.size + 1, w.heap.size + 1 + 1]) (by (repeat' (first | with_reducible exact OnlyL.refl _ _ | with_reducible assumption | with_reducible refine OnlyL.drew ?_ | with_reducible refine OnlyL.drewN ?_ _ | with_reducible refine OnlyL.setCell ?_ ?_ _ | with_reducible refine OnlyL.alloc ?_ _ | omega | (simp; done) | (simp; omega)))) (Nat.le_trans hwL i0) (by omega) HC4.out, _, HF.out, hs, (by first | omega | (simp; omega)), (setH2 Sm.out).out, setOther (setOther R4.out (by dsimp only; omega)) (by dsimp only; omega), setOther (setOther E5.out (by dsimp only; omega)) (by dsimp only; omega), by (repeat' (first | with_reducible exact Below.refl _ _ | with_reducible assumption | with_reducible refine Below.drew ?_ | with_reducible refine below_drewN ?_ _ | with_reducible refine Below.setCell ?_ ?_ _ | with_reducible refine Below.alloc ?_ ?_ _ | omega | (simp; done) | (simp; omega)))⟩
        · have HF : Hid (foldO 0 (pre ++ [some q]) = .error 5) := by show _ = _; rw [foldO_snoc I1.out, if_neg hs]
          gi_wp2_with fail
          exact ⟨OnlyL.from (L := [w2.heap.size, w.heap.size + 1, w.heap.size + 1 + 1]) (by (repeat' (first | with_reducible exact OnlyL.refl _ _ | with_reducible assumption | with_reducible refine OnlyL.drew ?_ | with_reducible refine OnlyL.drewN ?_ _ | with_reducible refine OnlyL.setCell ?_ ?_ _ | with_reducible refine OnlyL.alloc ?_ _ | omega | (simp; done) | (simp; omega)))) _ HC3.out, rfl, HF.out, setOther (setH2 (setOther (setOther R4.out (by dsimp only; omega)) (by dsimp only; omega))).out (by dsimp only; omega), setBox (setOther (setOther (setOther (setOther E5.out (by dsimp only; omega)) (by dsimp only; omega)) (by dsimp only; omega)) (by dsimp only; omega)) _, by (repeat' (first | with_reducible exact Below.refl _ _ | with_reducible assumption | with_reducible refine Below.drew ?_ | with_reducible refine below_drewN ?_ _ | with_reducible refine Below.setCell ?_ ?_ _ | with_reducible refine Below.alloc ?_ ?_ _ | omega | (simp; done) | (simp; omega)))⟩
    case done =>
      rintro D ys wq hD rfl ⟨a, i1, i2, i0, i3, i4, i5, hwq⟩ hK
      have cSm := cellH (Lib.hid i3)
      have fzSm := frozH (Lib.hid i3)
      have lSm := lt_of_H (Lib.hid i3)
      have cR4 := cellH (Lib.hid i4)
      have fzR4 := frozH (Lib.hid i4)
      have lR4 := lt_of_H (Lib.hid i4)
      have cE5 := cellH (Lib.hid i5)
      have fzE5 := frozH (Lib.hid i5)
      have lE5 := lt_of_H (Lib.hid i5)
      have I1 := Lib.hid i1
      have R4 := Lib.hid i4
      have E5 := Lib.hid i5
      clear i1 i3 i4 i5
      have q1 : w2.heap.size ≠ w.heap.size + 1 := by omega
      have q2 : w2.heap.size ≠ w.heap.size + 1 + 1 := by omega
      have q3 : w.heap.size + 1 ≠ w.heap.size + 1 + 1 := by omega
      have hKx := Lib.hid hK
      clear hK
      have zq := hwq.size
      gi_wp2_with fail
      have hk2 : (((wq.setCell ⟨w.heap.size + 1, 0, none⟩ (.int .i64 a.num)).setCell ⟨w.heap.size + 1, 1, none⟩ (.int .i64 a.den)).setCell ⟨w.heap.size + 1 + 1, 0, none⟩ .nilIface).heap[D]? = some (.deferred (some [])) := (KeepsOthers.setCell _ _ _).same D _ ((KeepsOthers.setCell _ _ _).same D _ ((KeepsOthers.setCell _ _ _).same D _ hKx.out rfl) rfl) rfl
      have H4 : Hid (((((wq.setCell ⟨w.heap.size + 1, 0, none⟩ (.int .i64 a.num)).setCell ⟨w.heap.size + 1, 1, none⟩ (.int .i64 a.den)).setCell ⟨w.heap.size + 1 + 1, 0, none⟩ .nilIface).putObj D (.deferred none)).heap[w.heap.size + 1]? = some (.cells #[.int .i64 a.num, .int .i64 a.den] 24 (0, 0))) := (World.putObj_heap_other (by omega)).trans (setOther (setH2 R4.out).out (by dsimp only; omega))
      have H5 : Hid (((((wq.setCell ⟨w.heap.size + 1, 0, none⟩ (.int .i64 a.num)).setCell ⟨w.heap.size + 1, 1, none⟩ (.int .i64 a.den)).setCell ⟨w.heap.size + 1 + 1, 0, none⟩ .nilIface).putObj D (.deferred none)).heap[w.heap.size + 1 + 1]? = some (.cells #[.nilIface] 34 (0, 0))) := (World.putObj_heap_other (by omega)).trans (setBox (setOther (setOther E5.out (by dsimp only; omega)) (by dsimp only; omega)) _)
      have hB : Below w.heap.size w ((((wq.setCell ⟨w.heap.size + 1, 0, none⟩ (.int .i64 a.num)).setCell ⟨w.heap.size + 1, 1, none⟩ (.int .i64 a.den)).setCell ⟨w.heap.size + 1 + 1, 0, none⟩ .nilIface).putObj D (.deferred none)) := Below.trans (by (repeat' (first | with_reducible exact Below.refl _ _ | with_reducible assumption | with_reducible refine Below.drew ?_ | with_reducible refine below_drewN ?_ _ | with_reducible refine Below.setCell ?_ ?_ _ | with_reducible refine Below.alloc ?_ ?_ _ | omega | (simp; done) | (simp; omega)))) (belowK_b (w := w) (Nat.le_refl _) _ D _ _ (by omega) hk2 rfl rfl)
      refine ⟨by simp, .inl ⟨_, _, rfl, run_takeDeferred hk2, ?_⟩⟩
      clear hk2
      generalize (((wq.setCell ⟨w.heap.size + 1, 0, none⟩ (.int .i64 a.num)).setCell ⟨w.heap.size + 1, 1, none⟩ (.int .i64 a.den)).setCell ⟨w.heap.size + 1 + 1, 0, none⟩ .nilIface).putObj D (.deferred none) = wz at H4 H5 hB ⊢
      have c4 := cellH H4
      have c5 := cellH H5
      exact ⟨_, (by simp [results, Tryd.results20, go_sem, c4, c5]), ⟨_, _, _, rfl, resF_of (HATI.out.trans I1.out)⟩, hB⟩
    case stop =>
      rintro D c pre wq hD hpre ⟨rfl, hf, i4, i5, hwq⟩ hK
      have HF := Lib.hid (foldO_err hf hpre)
      clear hf hpre
      have hKx := Lib.hid hK
      clear hK
      have zq := hwq.size
      gi_wp2_with fail
      have hk2 : wq.heap[D]? = some (.deferred (some [])) := hKx.out
      have H4 : Hid ((wq.putObj D (.deferred none)).heap[w.heap.size + 1]? = some (.cells #[.int .i64 0, .int .i64 0] 24 (0, 0))) := (World.putObj_heap_other (by omega)).trans (i4)
      have H5 : Hid ((wq.putObj D (.deferred none)).heap[w.heap.size + 1 + 1]? = some (.cells #[(.iface 122 (.pointer (some (E 5))))] 34 (0, 0))) := (World.putObj_heap_other (by omega)).trans (i5)
      have hB : Below w.heap.size w (wq.putObj D (.deferred none)) := Below.trans (hwq) (belowK_b (w := w) (Nat.le_refl _) _ D _ _ (by omega) hk2 rfl rfl)
      refine ⟨by simp, .inl ⟨_, _, rfl, run_takeDeferred hk2, ?_⟩⟩
      clear hk2
      generalize wq.putObj D (.deferred none) = wz at H4 H5 hB ⊢
      have c4 := cellH H4
      have c5 := cellH H5
      exact ⟨_, (by simp [results, Tryd.results20, go_sem, c4, c5]), ⟨_, _, _, rfl, resF_fail (HATI.out.trans HF.out)⟩, hB⟩
  · rename_i g
    have HS := Lib.hid hs
    have hen := fun w => eql_nil (E g) w
    clear hs
    go_enter Tryd.func20, Tryd.ntmps20
    go_wp2_with fail
    refine (HASK.out _ (by (repeat' (first | with_reducible exact Below.refl _ _ | with_reducible assumption | with_reducible refine Below.drew ?_ | with_reducible refine below_drewN ?_ _ | with_reducible refine Below.setCell ?_ ?_ _ | with_reducible refine Below.alloc ?_ ?_ _ | omega | (simp; done) | (simp; omega))))).mono ?_
    rintro e w51 ⟨rfl, hb51⟩
    have hw51 : Below w.heap.size w w51 := stepH (by (repeat' (first | with_reducible exact Below.refl _ _ | with_reducible assumption | with_reducible refine Below.drew ?_ | with_reducible refine below_drewN ?_ _ | with_reducible refine Below.setCell ?_ ?_ _ | with_reducible refine Below.alloc ?_ ?_ _ | omega | (simp; done) | (simp; omega)))) hb51
    rw [HS.out]
    unfold errV
    have X := keepH hb51 (g := w.heap.size) (blk_old (blk_old (blk_new rfl)))
    have R4 := keepH hb51 (g := w.heap.size + 1) (blk_old (blk_new (by simp)))
    have E5 := keepH hb51 (g := w.heap.size + 1 + 1) (blk_new (by simp))
    have z51 := hw51.size
    clear hb51
    have cX := cellH X
    obtain ⟨lX, lX1, lX2⟩ := ltH X
    have cR4 := cellH R4
    obtain ⟨lR4, lR41, lR42⟩ := ltH R4
    have fzR4 := frozH R4
    have cE5 := cellH E5
    obtain ⟨lE5, lE51, lE52⟩ := ltH E5
    have fzE5 := frozH E5
    go_wp2_with fail
    refine bodyPost_ret (v := .tuple #[.agg #[.int .i64 0, .int .i64 0], .iface 122 (.pointer (some (E g)))]) (by simp [results, Tryd.results20, go_sem, cR4, cE5]) rfl ⟨⟨_, _, _, rfl, resF_fail (atI_err HS.out)⟩, by (repeat' (first | with_reducible exact Below.refl _ _ | with_reducible assumption | with_reducible refine Below.drew ?_ | with_reducible refine below_drewN ?_ _ | with_reducible refine Below.setCell ?_ ?_ _ | with_reducible refine Below.alloc ?_ ?_ _ | omega | (simp; done) | (simp; omega)))⟩

end Go.Proofs.YtmankldedhgdiaaDoor
