/- The parts of a scale: Parts: walk. -/
import Derived.Test.YtmankldedhgdiaaDoorScaleD
namespace Go.Proofs.YtmankldedhgdiaaDoor
open Go.RowKit Go.Shelf
attribute [local go_sem] Oper.semAt_some

def valsO (l : List (Option GQ)) : List Rat := l.filterMap fun o => o.map (·.1)
def noneO (l : List (Option GQ)) : Bool := l.any (·.isNone)

theorem valsO_snoc (l : List (Option GQ)) (q : GQ) : valsO (l ++ [some q]) = valsO l ++ [q.1] := by unfold valsO; rw [List.filterMap_append]; rfl
theorem valsO_len (l : List (Option GQ)) : (valsO l).length ≤ l.length := List.length_filterMap_le _ _
theorem noneO_snoc (l : List (Option GQ)) (o : Option GQ) : noneO (l ++ [o]) = (noneO l || o.isNone) := by unfold noneO; rw [List.any_append]; simp
theorem noneO_pre {l m : List (Option GQ)} (h : noneO l = true) (hp : l <+: m) : noneO m = true := by
  obtain ⟨t, rfl⟩ := hp
  unfold noneO at h ⊢
  rw [List.any_append, h]; rfl

/-- what Parts answers -/
def partsI (s : List BI) (n d : Int) : Except Nat (List Rat) :=
  match askE s n d with
  | some g => .error g
  | none => if noneO (bearsO (Rat.divInt n d) (s.map fracB)) = true then .error 5 else .ok (valsO (bearsO (Rat.divInt n d) (s.map fracB)))

theorem partsI_err {s : List BI} {n d : Int} {g : Nat} (h : askE s n d = some g) : partsI s n d = .error g := by unfold partsI; rw [h]
theorem partsI_good {gs : List (Rat × Rat)} {x : Rat} (h : askE (gs.map bR) x.num x.den = none) : partsI (gs.map bR) x.num x.den = if noneO (bearsO x gs) = true then .error 5 else .ok (valsO (bearsO x gs)) := by unfold partsI; rw [h, fracB_bR, Rat.num_divInt_den]

/-- a list of fractions, or an error, as it comes back -/
def PartsV (E : Nat → Addr) (base : Nat) (w : World) (r : Except Nat (List Rat)) (v err : Value) : Prop :=
  match r with
  | .ok l => Own encF 2 24 base w v (l.map fq) ∧ err = .nilIface
  | .error g => v = .slice none 0 0 ∧ err = .iface 122 (.pointer (some (E g)))

theorem partsV_ok {E : Nat → Addr} {base : Nat} {w : World} {r : Except Nat (List Rat)} {l : List Rat} {v : Value} (h : r = .ok l) (ho : Own encF 2 24 base w v (l.map fq)) : PartsV E base w r v .nilIface := by subst h; exact ⟨ho, rfl⟩
theorem partsV_fail {E : Nat → Addr} {base : Nat} {w : World} {r : Except Nat (List Rat)} {g : Nat} (h : r = .error g) : PartsV E base w r (.slice none 0 0) (.iface 122 (.pointer (some (E g)))) := by subst h; exact ⟨rfl, rfl⟩

theorem ownsRow_base {w : World} {b c : Nat} {e : TypeId} {size n : Nat} {v : Value} {xs : List Value} (h : w.ownsRow b e size v n xs) (hc : c ≤ b) : w.ownsRow c e size v n xs :=
  ⟨h.1, h.2.imp id fun ⟨g, cap, cur, h1, h2, h3⟩ => ⟨g, cap, cur, h1, Nat.le_trans hc h2, h3⟩⟩
theorem own_ne {w : World} {b k : Nat} {e : TypeId} {size n : Nat} {v : Value} {xs : List Value} (h : w.ownsRow b e size v n xs) (hk : k < b) : some k ≠ v.ownBlock := by
  rcases h.2 with ⟨rfl, _⟩ | ⟨g, cap, cur, rfl, h2, _⟩
  · simp [Value.ownBlock]
  · intro e; injection e with e; show False; simp at e; omega
theorem own_cells {w : World} {b k : Nat} {e : TypeId} {size n : Nat} {v : Value} {xs : List Value} (h : w.ownsRow b e size v n xs) (hk : k ∈ v.ownBlock.toList) : b ≤ k ∧ ∃ cs t z, w.heap[k]? = some (.cells cs t z) := by
  rcases h.2 with ⟨rfl, _⟩ | ⟨g, cap, cur, rfl, h2, h3, _⟩
  · simp [Value.ownBlock] at hk
  · simp [Value.ownBlock] at hk; subst hk; exact ⟨h2, _, _, _, h3⟩
theorem own_putObj {w : World} {b e size n D : Nat} {v : Value} {xs : List Value} {o : Obj} (h : w.ownsRow b e size v n xs) (hD : ∀ cs t z, w.heap[D]? ≠ some (.cells cs t z)) : (w.putObj D o).ownsRow b e size v n xs :=
  ⟨h.1, h.2.imp id fun ⟨g, cap, cur, h1, h2, h3, h4⟩ => ⟨g, cap, cur, h1, h2, (World.putObj_heap_other (fun e => hD _ _ _ (e ▸ h3))).trans h3, h4⟩⟩
theorem own_setCell {w : World} {b e size n : Nat} {v : Value} {xs : List Value} {p : Addr} {u : Value} (h : w.ownsRow b e size v n xs) (hp : p.block < b) : (w.setCell p u).ownsRow b e size v n xs :=
  ⟨h.1, h.2.imp id fun ⟨g, cap, cur, h1, h2, h3, h4⟩ => ⟨g, cap, cur, h1, h2, setOther h3 (by omega), h4⟩⟩

theorem own_from {B b e size n : Nat} {W W' : World} {row : Option Nat} {v : Value} {xs : List Value} (h2 : W.ownsRow b e size v n xs) (hg : W.grownBy W' row) (hr : ∀ r, row = some r → B ≤ r ∧ ∃ o : Obj, W.heap[r]? = some o ∧ o.isCells = false) : W'.ownsRow b e size v n xs := by
  refine h2.kept hg ?_
  rcases h2.2 with ⟨rfl, _⟩ | ⟨g, cap, cur, rfl, _, h3, _⟩
  · exact .inl rfl
  · refine .inr fun e => ?_
    obtain ⟨_, o, ho, hc⟩ := hr g e.symm
    rw [h3] at ho; cases ho; cases hc

def PaI (w : World) (K O R4 R5 : Nat) (pre : List (Option GQ)) (W : World) : Prop :=
  ∃ v, noneO pre = false ∧ K ≤ W.heap.size ∧ W.ownsRow K 24 2 v (valsO pre).length ((valsO pre).flatMap fun q => encF (fq q)) ∧ W.heap[O]? = some (.cells #[v] 39 (0, 0)) ∧ W.heap[R4]? = some (.cells #[.slice none 0 0] 39 (0, 0)) ∧ W.heap[R5]? = some (.cells #[.nilIface] 34 (0, 0)) ∧ Below w.heap.size w W
def PaX (E : Nat → Addr) (w : World) (R4 R5 : Nat) (c : Code) (pre : List (Option GQ)) (W : World) : Prop :=
  c = .ret ∧ noneO pre = true ∧ W.heap[R4]? = some (.cells #[.slice none 0 0] 39 (0, 0)) ∧ W.heap[R5]? = some (.cells #[(.iface 122 (.pointer (some (E 5))))] 34 (0, 0)) ∧ Below w.heap.size w W
theorem PaI_own (w : World) (K O R4 R5 : Nat) {B : Nat} (hB : w.heap.size ≤ B) : OwnFrom B (PaI w K O R4 R5) := fun _ W W' row ⟨v, h1, h0, h2, h3, h4, h5, h6⟩ hg hr =>
  ⟨v, h1, Nat.le_trans h0 hg.size, own_from h2 hg hr, ownBlk h3 hg hr, ownBlk h4 hg hr, ownBlk h5 hg hr, ownFrom_below (β := Unit) (Nat.le_refl _) hB () W W' row h6 hg hr⟩
theorem PaX_own (E : Nat → Addr) (w : World) (R4 R5 : Nat) (c : Code) {B : Nat} (hB : w.heap.size ≤ B) : OwnFrom B (PaX E w R4 R5 c) := fun _ W W' row ⟨h1, h2, h4, h5, h6⟩ hg hr =>
  ⟨h1, h2, ownBlk h4 hg hr, ownBlk h5 hg hr, ownFrom_below (β := Unit) (Nat.le_refl _) hB () W W' row h6 hg hr⟩

set_option maxRecDepth 100000 in
set_option maxHeartbeats 8000000 in
theorem parts15_any (s : List BI) (A : Option Addr) (c : Nat) (n d : Int) (E : Nat → Addr) (w : World) (hl : RowAt encR 4 w w.heap.size A s) (hm : s.length ≤ 9223372036854775807) (hI : ∀ b ∈ s, In4 b) (Bn : -9223372036854775808 ≤ n ∧ n ≤ 9223372036854775807) (Bd : -9223372036854775808 ≤ d ∧ d ≤ 9223372036854775807) (hE : Env LC E w) :
    Calls Tryd.prog 12 #[.slice A s.length c, .agg #[.int .i64 n, .int .i64 d]] w fun e w' =>
      (∃ v err, e = .returned (.tuple #[v, err]) ∧ PartsV E w.heap.size w' (partsI s n d) v err) ∧ Below w.heap.size w w' := by
  have HASK := Lib.hid (fun w' (h : Below w.heap.size w w') => ask15_any s A c n d E w' ((hl.below h (Nat.le_refl _)).more h.size) hm hI Bn Bd (hE.below h))
  cases hs : askE s n d
  · obtain ⟨hs1, hv⟩ := askE_none hs
    obtain ⟨gs, rfl, hgood, hlen, hpos, _⟩ := scaleE_none hs1
    obtain ⟨x, hx, rfl, rfl⟩ := good_of_validB hv
    have HATI := Lib.hid (partsI_good hs)
    rw [List.length_map] at *
    have HS := Lib.hid hs
    have HE := Lib.hid hE
    have HG := Lib.hid hgood
    have HL := Lib.hid hl
    have HX := Lib.hid hx
    clear hs hs1 hv hI hgood hE hl hx hpos hm Bn Bd
    obtain ⟨inf0, hi, jz0, jz1, jz2⟩ := info_parts infoFrac
    refine (callsIn_wide (n := 3)).1 ?_; refine callsIn_of_wp_marks Tryd.func12 rfl trivial ?_ rfl; simp only [Tryd.ntmps12, List.size_toArray, List.length_cons, List.length_nil, Nat.reduceAdd, Nat.reduceSub, Array.replicate_succ, Array.replicate_zero, List.push_toArray, List.append_toArray, List.nil_append, List.cons_append]
    gi_wp2_with fail
    first | refine wide_open ?_ | refine wide_open2 ?_
    refine (HASK.out _ (by (repeat' (first | with_reducible exact Below.refl _ _ | with_reducible assumption | with_reducible refine Below.drew ?_ | with_reducible refine below_drewN ?_ _ | with_reducible refine Below.setCell ?_ ?_ _ | with_reducible refine Below.alloc ?_ ?_ _ | omega | (simp; done) | (simp; omega))))).mono ?_
    rintro e w1 ⟨rfl, hb1⟩
    have hw1 : Below w.heap.size w w1 := stepH (by (repeat' (first | with_reducible exact Below.refl _ _ | with_reducible assumption | with_reducible refine Below.drew ?_ | with_reducible refine below_drewN ?_ _ | with_reducible refine Below.setCell ?_ ?_ _ | with_reducible refine Below.alloc ?_ ?_ _ | omega | (simp; done) | (simp; omega)))) hb1
    rw [HS.out]
    unfold errV
    have X := keepH hb1 (g := w.heap.size) (blk_old (blk_old (blk_new rfl)))
    have R4 := keepH hb1 (g := w.heap.size + 1) (blk_old (blk_new (by simp)))
    have E5 := keepH hb1 (g := w.heap.size + 1 + 1) (blk_new (by simp))
    have z1 := hw1.size
    clear hb1
    have cX := cellH X
    obtain ⟨lX, lX1, lX2⟩ := ltH X
    have cR4 := cellH R4
    obtain ⟨lR4, lR41, lR42⟩ := ltH R4
    have cE5 := cellH E5
    obtain ⟨lE5, lE51, lE52⟩ := ltH E5
    have hz1 : w.heap.size + 1 + 1 < w1.heap.size := lt_of_H E5
    gi_wp2_with fail
    first | refine wide_open ?_ | refine wide_open2 ?_
    refine (bears_any _ _ _ _ _ _).mono ?_
    rintro e w9 ⟨rfl, rfl⟩
    gi_wp2_with fail
    have hw2 : Below w.heap.size w (((w1.alloc (.cells #[.slice none 0 0] 39)).alloc (.cells #[.slice A gs.length c] 22)).alloc (.cells #[.int .i64 x.num, .int .i64 x.den] 24)) := by (repeat' (first | with_reducible exact Below.refl _ _ | with_reducible assumption | with_reducible refine Below.drew ?_ | with_reducible refine below_drewN ?_ _ | with_reducible refine Below.setCell ?_ ?_ _ | with_reducible refine Below.alloc ?_ ?_ _ | omega | (simp; done) | (simp; omega)))
    replace X : Hid ((((w1.alloc (.cells #[.slice none 0 0] 39)).alloc (.cells #[.slice A gs.length c] 22)).alloc (.cells #[.int .i64 x.num, .int .i64 x.den] 24)).heap[w.heap.size]? = some (.cells #[.int .i64 x.num, .int .i64 x.den] 24 (0, 0))) := (blk_old (blk_old (blk_old X.out)))
    replace R4 : Hid ((((w1.alloc (.cells #[.slice none 0 0] 39)).alloc (.cells #[.slice A gs.length c] 22)).alloc (.cells #[.int .i64 x.num, .int .i64 x.den] 24)).heap[w.heap.size + 1]? = some (.cells #[.slice none 0 0] 39 (0, 0))) := (blk_old (blk_old (blk_old R4.out)))
    replace E5 : Hid ((((w1.alloc (.cells #[.slice none 0 0] 39)).alloc (.cells #[.slice A gs.length c] 22)).alloc (.cells #[.int .i64 x.num, .int .i64 x.den] 24)).heap[w.heap.size + 1 + 1]? = some (.cells #[.nilIface] 34 (0, 0))) := (blk_old (blk_old (blk_old E5.out)))
    have Ou : Hid ((((w1.alloc (.cells #[.slice none 0 0] 39)).alloc (.cells #[.slice A gs.length c] 22)).alloc (.cells #[.int .i64 x.num, .int .i64 x.den] 24)).heap[w1.heap.size]? = some (.cells #[.slice none 0 0] 39 (0, 0))) := (blk_old (blk_old (blk_new rfl)))
    have Sb : Hid ((((w1.alloc (.cells #[.slice none 0 0] 39)).alloc (.cells #[.slice A gs.length c] 22)).alloc (.cells #[.int .i64 x.num, .int .i64 x.den] 24)).heap[w1.heap.size + 1]? = some (.cells #[.slice A gs.length c] 22 (0, 0))) := (blk_old (blk_new (by simp)))
    have Xb : Hid ((((w1.alloc (.cells #[.slice none 0 0] 39)).alloc (.cells #[.slice A gs.length c] 22)).alloc (.cells #[.int .i64 x.num, .int .i64 x.den] 24)).heap[w1.heap.size + 1 + 1]? = some (.cells #[.int .i64 x.num, .int .i64 x.den] 24 (0, 0))) := (blk_new (by simp))
    clear cX lX lX1 lX2 cR4 lR4 lR41 lR42 cE5 lE5 lE51 lE52
    generalize (((w1.alloc (.cells #[.slice none 0 0] 39)).alloc (.cells #[.slice A gs.length c] 22)).alloc (.cells #[.int .i64 x.num, .int .i64 x.den] 24)) = w2 at *
    have z2 := hw2.size
    have cX := cellH X
    obtain ⟨lX, lX1, lX2⟩ := ltH X
    have cR4 := cellH R4
    obtain ⟨lR4, lR41, lR42⟩ := ltH R4
    have cE5 := cellH E5
    obtain ⟨lE5, lE51, lE52⟩ := ltH E5
    have cOu := cellH Ou
    obtain ⟨lOu, lOu1, lOu2⟩ := ltH Ou
    have cSb := cellH Sb
    obtain ⟨lSb, lSb1, lSb2⟩ := ltH Sb
    have cXb := cellH Xb
    obtain ⟨lXb, lXb1, lXb2⟩ := ltH Xb
    clear cX lX lX1 lX2 cR4 lR4 lR41 lR42 cE5 lE5 lE51 lE52 cOu lOu lOu1 lOu2 cSb lSb lSb1 lSb2 cXb lXb lXb1 lXb2
    have hzL : w1.heap.size + 1 + 1 < w2.heap.size := lt_of_H Xb
    have hwL : w.heap.size ≤ w2.heap.size := by omega
    refine wpIn_rangeFunc_ownH rfl (by decide) (gf := 52) (lb := #[.pointer (some ⟨w1.heap.size + 1, 0, none⟩), .pointer (some ⟨w1.heap.size + 1 + 1, 0, none⟩)]) rfl trivial (enters_of Tryd.func52 (by kernel_rfl) rfl)
      (bears_stops gs x A c E w HX.out HG.out hlen HL.out HE.out (3 - 1) (w1.heap.size + 1) (w1.heap.size + 1) (w1.heap.size + 1 + 1) (w1.heap.size + 1 + 1 + 1) ⟨Nat.le_refl _, by omega⟩ ⟨by omega, by omega⟩ w2 hw2 (by omega) Sb Xb)
      KeepR.trans (keepR_b hwL (by omega)) (Below.refl _ _) (encO_size E)
      (PaI w w2.heap.size w1.heap.size (w.heap.size + 1) (w.heap.size + 1 + 1)) (PaX E w (w.heap.size + 1) (w.heap.size + 1 + 1)) (PaI_own w _ _ _ _ hwL) (fun c => PaX_own E w _ _ c hwL)
      ⟨_, rfl, Nat.le_refl _, World.ownsRow_nil _ _ _ _, Ou.out, R4.out, E5.out, hw2⟩
      (fun y a' W => ∃ (Bp : Nat) (n d : Int) (v : Value), encO E y = #[.agg #[.int .i64 n, .int .i64 d], v] ∧ w2.heap.size ≤ Bp ∧ W.heap[Bp]? = some (.cells #[.int .i64 n, .int .i64 d] 24 (0, 0)) ∧ a' = { tmps := #[.slice A gs.length c, .agg #[.int .i64 x.num, .int .i64 x.den], undef, .pointer (some ⟨w.heap.size, 0, none⟩), .pointer (some ⟨w.heap.size + 1, 0, none⟩), .pointer (some ⟨w.heap.size + 1 + 1, 0, none⟩), .nilIface, .pointer (some ⟨w1.heap.size, 0, none⟩), .pointer (some ⟨Bp, 0, none⟩), v, .slice A gs.length c, .agg #[.int .i64 x.num, .int .i64 x.den], .nilIface, .nilIface, .bool false, undef, .slice A gs.length c, .agg #[.int .i64 x.num, .int .i64 x.den], .func (.func 52) #[] #[.pointer (some ⟨w1.heap.size + 1, 0, none⟩), .pointer (some ⟨w1.heap.size + 1 + 1, 0, none⟩)], .agg #[.int .i64 n, .int .i64 d], v, undef, undef, undef, undef, undef, undef, undef, undef], defers := [] })
      (fun y a' s W W' row hs hg hr => by obtain ⟨Bp, n, d, v, h1, h2, h3, h4⟩ := hs; exact ⟨Bp, n, d, v, h1, h2, ownBlk h3 hg hr, h4⟩) ?assign ?body ?done ?stop
    case assign =>
      intro l pre y W K hI hK
      obtain ⟨n, d, v, hy⟩ : ∃ (n d : Int) (v : Value), encO E y = #[.agg #[.int .i64 n, .int .i64 d], v] := by cases y with
        | none => exact ⟨_, _, _, rfl⟩
        | some q => exact ⟨_, _, _, rfl⟩
      rw [hy]
      obtain ⟨u, i1, i0, i2, i3, i4, i5, i6⟩ := hI
      gi_wp2_with fail
      exact hK _ _ ((KeepsOthers.alloc _ _).from _) (KeepR.ofBelow ((Below.refl _ _).alloc (Nat.le_refl _) _) i6.size (by omega)) ⟨u, i1, (by simp; omega), i2.alloc _, blk_old i3, blk_old i4, blk_old i5, i6.alloc (by omega) _⟩ ⟨_, n, d, v, hy, by omega, blk_new rfl, rfl⟩
    case body =>
      rintro l pre y a' wq hl ⟨r, hr⟩ ⟨u, i1, i0, i2, i3, i4, i5, hwq⟩ ⟨Bp, n, d, v, h1, h2, h3, rfl⟩ hlt
      have zq := hwq.size
      clear hr hl Ou R4 E5 Sb Xb X
      have Ou : Hid (wq.heap[w1.heap.size]? = some (.cells #[u] 39 (0, 0))) := i3
      have R4 : Hid (wq.heap[w.heap.size + 1]? = some (.cells #[.slice none 0 0] 39 (0, 0))) := i4
      have E5 : Hid (wq.heap[w.heap.size + 1 + 1]? = some (.cells #[.nilIface] 34 (0, 0))) := i5
      have P : Hid (wq.heap[Bp]? = some (.cells #[.int .i64 n, .int .i64 d] 24 (0, 0))) := h3
      have I1 := Lib.hid i1
      have IO := Lib.hid i2
      have hvl := valsO_len pre
      clear i1 i2 i3 i4 i5 h3
      have HC3 : Hid (∀ k ∈ ([w1.heap.size, w.heap.size + 1, w.heap.size + 1 + 1] ++ u.ownBlock.toList), ∃ cs t z, wq.heap[k]? = some (.cells cs t z)) := by
        intro k hk
        rcases List.mem_append.1 hk with hk | hk
        · simp only [List.mem_cons, List.not_mem_nil, or_false] at hk
          rcases hk with rfl | rfl | rfl
          · exact ⟨_, _, _, Ou.out⟩
          · exact ⟨_, _, _, R4.out⟩
          · exact ⟨_, _, _, E5.out⟩
        · exact (own_cells IO.out hk).2
      have HC4 : Hid (∀ k ∈ ([w1.heap.size, w.heap.size + 1, w.heap.size + 1 + 1] ++ u.ownBlock.toList), w.heap.size ≤ k ∧ (k < w1.heap.size + 1 ∨ w1.heap.size + 1 + 1 + 1 ≤ k)) := by
        intro k hk
        rcases List.mem_append.1 hk with hk | hk
        · simp only [List.mem_cons, List.not_mem_nil, or_false] at hk
          rcases hk with rfl | rfl | rfl <;> omega
        · have := (own_cells IO.out hk).1; omega
      have q1 : w1.heap.size ≠ w.heap.size + 1 := by omega
      have q2 : w1.heap.size ≠ w.heap.size + 1 + 1 := by omega
      have q3 : w.heap.size + 1 ≠ w.heap.size + 1 + 1 := by omega
      cases y with
      | none =>
        obtain ⟨rfl, rfl, rfl⟩ : n = 0 ∧ d = 0 ∧ v = (.iface 122 (.pointer (some (E 5)))) := by
          have h := h1
          simp [encO] at h
          exact ⟨h.1.1.symm, h.1.2.symm, h.2.symm⟩
        have hen := fun w => eql_nil (E 5) w
        clear h1 hlt hvl
        have cOu := cellH Ou
        obtain ⟨lOu, lOu1, lOu2⟩ := ltH Ou
        have cR4 := cellH R4
        obtain ⟨lR4, lR41, lR42⟩ := ltH R4
        have cE5 := cellH E5
        obtain ⟨lE5, lE51, lE52⟩ := ltH E5
        have cP := cellH P
        obtain ⟨lP, lP1, lP2⟩ := ltH P
        have fzOu := frozH Ou
        have fzR4 := frozH R4
        have fzE5 := frozH E5
        gi_wp2_with fail
        exact ⟨OnlyL.from (L := ([w1.heap.size, w.heap.size + 1, w.heap.size + 1 + 1] ++ u.ownBlock.toList)) (by (repeat' (first | with_reducible exact OnlyL.refl _ _ | with_reducible assumption | with_reducible refine OnlyL.drew ?_ | with_reducible refine OnlyL.drewN ?_ _ | with_reducible refine OnlyL.setCell ?_ ?_ _ | with_reducible refine OnlyL.alloc ?_ _ | omega | (simp; done) | (simp; omega)))) _ HC3.out, rfl, (by rw [noneO_snoc, I1.out]; rfl), setOther (setBox R4.out _) (by dsimp only; omega), setBox (setOther E5.out (by dsimp only; omega)) _, by (repeat' (first | with_reducible exact Below.refl _ _ | with_reducible assumption | with_reducible refine Below.drew ?_ | with_reducible refine below_drewN ?_ _ | with_reducible refine Below.setCell ?_ ?_ _ | with_reducible refine Below.alloc ?_ ?_ _ | omega | (simp; done) | (simp; omega)))⟩
      | some q =>
        obtain ⟨rfl, rfl, rfl⟩ : n = q.1.num ∧ d = q.1.den ∧ v = .nilIface := by
          have h := h1
          simp [encO] at h
          exact ⟨h.1.1.symm, h.1.2.symm, h.2.symm⟩
        clear h1
        have cOu := cellH Ou
        obtain ⟨lOu, lOu1, lOu2⟩ := ltH Ou
        have cR4 := cellH R4
        obtain ⟨lR4, lR41, lR42⟩ := ltH R4
        have cE5 := cellH E5
        obtain ⟨lE5, lE51, lE52⟩ := ltH E5
        have cP := cellH P
        obtain ⟨lP, lP1, lP2⟩ := ltH P
        have fzOu := frozH Ou
        have fzR4 := frozH R4
        have fzE5 := frozH E5
        gi_wp2_with (gi_at_builtin; go_must (refine wpListIn_append_own _ rfl (.tmp 24) (.tmp 26) 39 rfl w2.heap.size 24 inf0 _ 2 16 Tryd.underlying39 hi jz0 jz1 jz2 rfl (by decide) u (valsO pre).length _ rfl (IO.out.alloc _) ⟨wq.heap.size, 0, none⟩ 1 1 [.int .i64 q.1.num, .int .i64 q.1.den] rfl rfl (cell_two_new _ _ _ _) (by simp [Value.oneCell']) (by unfold maxLen; omega) (by omega) (by simp; omega) ?_); intro v' w9 hown9 hgrow9 _; obtain ⟨g9, cap9, rfl⟩ := ownsRow_succ hown9; have o9 := hgrow9.size; have Ou9 : Hid (w9.heap[w1.heap.size]? = some (.cells #[u] 39 (0, 0))) := (hgrow9.block _ (by simp; omega) (own_ne IO.out (by omega))).trans (blk_old Ou.out); have R49 : Hid (w9.heap[w.heap.size + 1]? = some (.cells #[.slice none 0 0] 39 (0, 0))) := (hgrow9.block _ (by simp; omega) (own_ne IO.out (by omega))).trans (blk_old R4.out); have E59 : Hid (w9.heap[w.heap.size + 1 + 1]? = some (.cells #[.nilIface] 34 (0, 0))) := (hgrow9.block _ (by simp; omega) (own_ne IO.out (by omega))).trans (blk_old E5.out); have cOu9 := cellH Ou9; have fOu9 := frozH Ou9; have lOu9 := lt_of_H Ou9)
        have hol : OnlyL ([w1.heap.size, w.heap.size + 1, w.heap.size + 1 + 1] ++ u.ownBlock.toList) wq (w9.setCell ⟨w1.heap.size, 0, none⟩ (.slice (some ⟨g9, 0, none⟩) ((valsO pre).length + 1) cap9)) := OnlyL.setCell (OnlyL.grown (OnlyL.alloc (OnlyL.refl _ _) _) hgrow9 (fun k e => .inl (by simp [e]))) (by simp) _
        exact ⟨hol.from _ HC3.out, hol.keepR (Nat.le_trans hwL i0) (by omega) HC4.out, _, (by rw [noneO_snoc, I1.out]; rfl), Nat.le_trans i0 hol.size, (by rw [valsO_snoc, List.length_append, List.flatMap_append]; exact own_setCell hown9 (by dsimp only; omega)), setBox Ou9.out _, setOther R49.out (by dsimp only; omega), setOther E59.out (by dsimp only; omega), Below.trans hwq (hol.below (Nat.le_trans hwL i0) (fun k hk => (HC4.out k hk).1))⟩
    case done =>
      rintro D ys wq hD rfl ⟨u, i1, i0, i2, i3, i4, i5, hwq⟩ hK
      have cOu := cellH (Lib.hid i3)
      have fzOu := frozH (Lib.hid i3)
      have lOu := lt_of_H (Lib.hid i3)
      have cR4 := cellH (Lib.hid i4)
      have fzR4 := frozH (Lib.hid i4)
      have lR4 := lt_of_H (Lib.hid i4)
      have cE5 := cellH (Lib.hid i5)
      have fzE5 := frozH (Lib.hid i5)
      have lE5 := lt_of_H (Lib.hid i5)
      have I1 := Lib.hid i1
      have IO := Lib.hid i2
      have R4 := Lib.hid i4
      have E5 := Lib.hid i5
      clear i1 i2 i3 i4 i5
      have q1 : w1.heap.size ≠ w.heap.size + 1 := by omega
      have q2 : w1.heap.size ≠ w.heap.size + 1 + 1 := by omega
      have q3 : w.heap.size + 1 ≠ w.heap.size + 1 + 1 := by omega
      have hKx := Lib.hid hK
      clear hK
      have zq := hwq.size
      obtain ⟨A9, m9, c9, rfl⟩ : ∃ A m c, u = .slice A m c := by
        rcases IO.out.2 with ⟨rfl, _⟩ | ⟨g, cap, cur, rfl, _⟩
        · exact ⟨_, _, _, rfl⟩
        · exact ⟨_, _, _, rfl⟩
      gi_wp2_with fail
      have hk2 : ((wq.setCell ⟨w.heap.size + 1, 0, none⟩ (.slice A9 m9 c9)).setCell ⟨w.heap.size + 1 + 1, 0, none⟩ .nilIface).heap[D]? = some (.deferred (some [])) := (KeepsOthers.setCell _ _ _).same D _ ((KeepsOthers.setCell _ _ _).same D _ hKx.out rfl) rfl
      have H4 : Hid ((((wq.setCell ⟨w.heap.size + 1, 0, none⟩ (.slice A9 m9 c9)).setCell ⟨w.heap.size + 1 + 1, 0, none⟩ .nilIface).putObj D (.deferred none)).heap[w.heap.size + 1]? = some (.cells #[.slice A9 m9 c9] 39 (0, 0))) := (World.putObj_heap_other (by omega)).trans (setOther (setBox R4.out _) (by dsimp only; omega))
      have H5 : Hid ((((wq.setCell ⟨w.heap.size + 1, 0, none⟩ (.slice A9 m9 c9)).setCell ⟨w.heap.size + 1 + 1, 0, none⟩ .nilIface).putObj D (.deferred none)).heap[w.heap.size + 1 + 1]? = some (.cells #[.nilIface] 34 (0, 0))) := (World.putObj_heap_other (by omega)).trans (setBox (setOther E5.out (by dsimp only; omega)) _)
      have hB : Below w.heap.size w (((wq.setCell ⟨w.heap.size + 1, 0, none⟩ (.slice A9 m9 c9)).setCell ⟨w.heap.size + 1 + 1, 0, none⟩ .nilIface).putObj D (.deferred none)) := Below.trans (by (repeat' (first | with_reducible exact Below.refl _ _ | with_reducible assumption | with_reducible refine Below.drew ?_ | with_reducible refine below_drewN ?_ _ | with_reducible refine Below.setCell ?_ ?_ _ | with_reducible refine Below.alloc ?_ ?_ _ | omega | (simp; done) | (simp; omega)))) (belowK_b (w := w) (Nat.le_refl _) _ D _ _ (by omega) hk2 rfl rfl)
      have HO : Hid (Own encF 2 24 w.heap.size (((wq.setCell ⟨w.heap.size + 1, 0, none⟩ (.slice A9 m9 c9)).setCell ⟨w.heap.size + 1 + 1, 0, none⟩ .nilIface).putObj D (.deferred none)) (.slice A9 m9 c9) ((valsO (bearsO x gs)).map fq)) := by show Own _ _ _ _ _ _ _; unfold Own; rw [List.length_map, List.flatMap_map]; exact ownsRow_base (own_putObj (own_setCell (own_setCell IO.out (by dsimp only; omega)) (by dsimp only; omega)) (fun cs t z e => by rw [hk2] at e; cases e)) hwL
      refine ⟨by simp, .inl ⟨_, _, rfl, run_takeDeferred hk2, ?_⟩⟩
      clear hk2
      generalize ((wq.setCell ⟨w.heap.size + 1, 0, none⟩ (.slice A9 m9 c9)).setCell ⟨w.heap.size + 1 + 1, 0, none⟩ .nilIface).putObj D (.deferred none) = wz at *
      have c4 := cellH H4
      have c5 := cellH H5
      exact ⟨_, (by simp [results, Tryd.results12, go_sem, c4, c5]), ⟨_, _, rfl, partsV_ok (HATI.out.trans (by rw [I1.out]; rfl)) HO.out⟩, hB⟩
    case stop =>
      rintro D c pre wq hD hpre ⟨rfl, hf, i4, i5, hwq⟩ hK
      have HF := Lib.hid (noneO_pre hf hpre)
      clear hf hpre
      have hKx := Lib.hid hK
      clear hK
      have zq := hwq.size
      gi_wp2_with fail
      have hk2 : wq.heap[D]? = some (.deferred (some [])) := hKx.out
      have H4 : Hid ((wq.putObj D (.deferred none)).heap[w.heap.size + 1]? = some (.cells #[.slice none 0 0] 39 (0, 0))) := (World.putObj_heap_other (by omega)).trans (i4)
      have H5 : Hid ((wq.putObj D (.deferred none)).heap[w.heap.size + 1 + 1]? = some (.cells #[(.iface 122 (.pointer (some (E 5))))] 34 (0, 0))) := (World.putObj_heap_other (by omega)).trans (i5)
      have hB : Below w.heap.size w (wq.putObj D (.deferred none)) := Below.trans (hwq) (belowK_b (w := w) (Nat.le_refl _) _ D _ _ (by omega) hk2 rfl rfl)
      refine ⟨by simp, .inl ⟨_, _, rfl, run_takeDeferred hk2, ?_⟩⟩
      clear hk2
      generalize wq.putObj D (.deferred none) = wz at *
      have c4 := cellH H4
      have c5 := cellH H5
      exact ⟨_, (by simp [results, Tryd.results12, go_sem, c4, c5]), ⟨_, _, rfl, partsV_fail (HATI.out.trans (if_pos HF.out))⟩, hB⟩
  · rename_i g
    have HS := Lib.hid hs
    have hen := fun w => eql_nil (E g) w
    clear hs
    go_enter Tryd.func12, Tryd.ntmps12
    go_wp2_with fail
    refine (HASK.out _ (by (repeat' (first | with_reducible exact Below.refl _ _ | with_reducible assumption | with_reducible refine Below.drew ?_ | with_reducible refine below_drewN ?_ _ | with_reducible refine Below.setCell ?_ ?_ _ | with_reducible refine Below.alloc ?_ ?_ _ | omega | (simp; done) | (simp; omega))))).mono ?_
    rintro e w51 ⟨rfl, hb51⟩
    have hw51 : Below w.heap.size w w51 := stepH (by (repeat' (first | with_reducible exact Below.refl _ _ | with_reducible assumption | with_reducible refine Below.drew ?_ | with_reducible refine below_drewN ?_ _ | with_reducible refine Below.setCell ?_ ?_ _ | with_reducible refine Below.alloc ?_ ?_ _ | omega | (simp; done) | (simp; omega)))) hb51
    rw [HS.out]
    unfold errV
    have X := keepH hb51 (g := w.heap.size) (blk_old (blk_old (blk_new rfl)))
    have R4 := keepH hb51 (g := w.heap.size + 1) (blk_old (blk_new (by simp)))
    have E5 := keepH hb51 (g := w.heap.size + 1 + 1) (blk_new (by simp))
    have z51 := hw51.size
    clear hb51
    have cX := cellH X
    obtain ⟨lX, lX1, lX2⟩ := ltH X
    have cR4 := cellH R4
    obtain ⟨lR4, lR41, lR42⟩ := ltH R4
    have fzR4 := frozH R4
    have cE5 := cellH E5
    obtain ⟨lE5, lE51, lE52⟩ := ltH E5
    have fzE5 := frozH E5
    go_wp2_with fail
    refine bodyPost_ret (v := .tuple #[.slice none 0 0, .iface 122 (.pointer (some (E g)))]) (by simp [results, Tryd.results12, go_sem, cR4, cE5]) rfl ⟨⟨_, _, rfl, partsV_fail (partsI_err HS.out)⟩, by (repeat' (first | with_reducible exact Below.refl _ _ | with_reducible assumption | with_reducible refine Below.drew ?_ | with_reducible refine below_drewN ?_ _ | with_reducible refine Below.setCell ?_ ?_ _ | with_reducible refine Below.alloc ?_ ?_ _ | omega | (simp; done) | (simp; omega)))⟩

end Go.Proofs.YtmankldedhgdiaaDoor
