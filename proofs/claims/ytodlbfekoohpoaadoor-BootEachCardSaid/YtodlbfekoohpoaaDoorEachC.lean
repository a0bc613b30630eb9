/- begins' walk. -/
import Derived.Test.YtodlbfekoohpoaaDoorEachB
namespace Go.Proofs.YtodlbfekoohpoaaDoor
open Go.RowKit

theorem infoI6 : (Tryd.prog.info? 3).map (fun i => (i.zero, i.size, i.bytes)) = some (some (.int .i64 0), 1, 8) := by kernel_rfl
theorem run_nothing (w : World) : (Instr.makeSlice 42 (.int .i64 0) (.int .i64 0)).run Tryd.prog w = .ok (.slice (some ⟨w.heap.size, 0, none⟩) 0 0) (w.alloc (.cells #[] 3)) := by
  obtain ⟨inf0, hi, jz0, jz1, jz2⟩ := info_parts infoI6
  have h := run_make (P := Tryd.prog) (w := w) 42 3 inf0 _ Tryd.underlying42 hi jz0 .i64 .i64 0 0 (by omega) (Int.le_refl _) (by rw [jz2]; omega) (by omega)
  rw [h, jz1]
  have e : madeCells (Value.int .i64 0).cells (Int.toNat 0 * 1) = #[] := by simp [madeCells]
  rw [e]
  rfl

theorem and15_all : ((List.range 256).all fun a => bits .and .i64 (a : Int) 15 == ((a % 16 : Nat) : Int)) = true := by kernel_rfl
theorem and15 {a : Nat} (h : a < 256) : bits .and .i64 (a : Int) 15 = ((a % 16 : Nat) : Int) := by
  have := List.all_eq_true.1 and15_all a (List.mem_range.2 h)
  simpa using this
theorem stepZ_size (i : Nat) : ∀ k, (stepZ i k).size = 3 + k
  | 0 => rfl
  | k + 1 => by
    show (stepZ i k ++ ⟨#[UInt8.ofNat (97 + i / 16 ^ k % 16)]⟩ : ByteArray).size = _
    rw [ByteArray.size_append, stepZ_size i k]
    rfl
/-- a play's block -/
def PlayB (L r : Nat) (rv : Value) : Obj := .cells #[.slice none 0 0, .pointer (some ⟨L, 0, none⟩), .pointer (some ⟨r, 0, none⟩), .slice none 0 0, .slice none 0 0, rv] 65
/-- a play in memory -/
structure Pl (b : Nat) (E : Nat → Addr) (m : Int) (L P U r pb : Nat) (rv : Value) (w : World) (v vr : Value) (N : List Nt) (um : Nat) : Prop where
  pr : Pr b E m L P U r w v vr N um
  bx : Box L P U v w pb (PlayB L r rv)
  ne : pb ≠ r ∧ vr.ownBlock ≠ some pb
  hpb : b ≤ pb
theorem pr_new {b L P U r pb : Nat} {E : Nat → Addr} {m : Int} {rv : Value} {w w1 W : World} (hb : b = w.heap.size) (h1 : b ≤ w1.heap.size) (hw : Below w.heap.size w W) (hE : Env L5 E w) (hm : w.cell? ⟨5, 0, none⟩ = some (.int .i64 m)) (hl : Led w1.heap.size W L P U (.slice none 0 0) [] [] false 0)
    (hr : W.heap[r]? = some (.cells #[.slice none 0 0, .slice none 0 0, .bool false] 69 (0, 0))) (hp : W.heap[pb]? = some (PlayB L r rv)) (c1 : b ≤ r) (c2 : b ≤ pb) (hne : pb ≠ r) (d1 : ∀ k, k = r ∨ k = pb → k ≠ L ∧ k ≠ P ∧ k ≠ U) :
    Pl b E m L P U r pb rv W (.slice none 0 0) (.slice none 0 0) [] 0 := by
  have f1 := d1 r (.inl rfl)
  have f2 := d1 pb (.inr rfl)
  refine ⟨⟨st_new h1 (by omega) hw hE hm (by rw [hb]; exact ⟨L5_lt hE, cell_lt hm⟩) hl, ⟨hr, Own.nil, c1, by simp [Value.ownBlock], Nat.zero_le _⟩, fun k hk => ?_⟩, ⟨⟨(Array.getElem?_eq_some_iff.1 hp).1, f2.1, f2.2.1, f2.2.2, by simp [Value.ownBlock]⟩, hp⟩, ⟨hne, by simp [Value.ownBlock]⟩, c2⟩
  rcases hk with e | e
  · subst e
    exact ⟨(Array.getElem?_eq_some_iff.1 hr).1, f1.1, f1.2.1, f1.2.2, by simp [Value.ownBlock]⟩
  · simp [Value.ownBlock] at e

set_option maxRecDepth 10000 in
set_option maxHeartbeats 16000000 in
theorem begins_any (n : Int) (E : Nat → Addr) (m : Int) (w : World) (hE : Env L5 E w) (hm : w.cell? ⟨5, 0, none⟩ = some (.int .i64 m)) :
    Calls Tryd.prog 25 #[.slice none 0 0, .int .i64 n] w fun e w' => ∃ (L P U r pb : Nat) (rv v vr : Value) (k um : Nat), e = .returned (.tuple #[.pointer (some ⟨pb, 0, none⟩), .bool true]) ∧ Hid (Pl w.heap.size E m L P U r pb rv w' v vr (zN k) um ∧ k ≤ 200) ∧ Below w.heap.size w w' := by
  have HE := Lib.hid hE
  have HM := Lib.hid hm
  have hmk := run_nothing
  have j0 := hm
  have n0 := World.new_ne w _ j0
  clear hE hm
  go_enter Tryd.func25, Tryd.ntmps25
  go_upto_region 1 with fail
  go_cut [6] (fun s6 wx => ∃ (L P U r pb : Nat) (rv : Value), s6 = .pointer (some ⟨pb, 0, none⟩) ∧ Hid (Pl w.heap.size E m L P U r pb rv wx (.slice none 0 0) (.slice none 0 0) [] 0) ∧ Below w.heap.size w wx)
  case first =>
    as_aux_lemma =>
    go_wp2_with fail
    go_region_held3 (fun w' => w'.cell? ⟨5, 0, none⟩ = some (.int .i64 m)) (first | with_reducible exact j0 | go_keep)
      ((go_at_call 8; refine (new_any _).mono ?_; rintro e wn ⟨L, P, U, rfl, hln, hbn⟩; have hwn : Below w.heap.size w wn := stepH (by (repeat' (first | with_reducible exact Below.refl _ _ | with_reducible assumption | with_reducible refine Below.drew ?_ | with_reducible refine below_drewN ?_ _ | with_reducible refine Below.setCell ?_ ?_ _ | with_reducible refine Below.alloc ?_ ?_ _ | omega | (simp; done) | (simp; omega)))) hbn; replace j0 := cellOf hbn (by first | exact j0 | exact cell_alloc j0 | exact cell_drew j0 | exact cell_alloc (cell_drew j0) | exact cell_drew (cell_alloc (cell_drew j0)) | exact cell_alloc (cell_alloc (cell_drew j0)) | exact cell_drew (cell_alloc (cell_alloc (cell_drew j0))) | exact cell_alloc (cell_alloc j0))))
    · have q1 := hln.lt
      obtain ⟨_, _, _, q2, _⟩ := hln.places
      obtain ⟨_, q3, _⟩ := hln.under
      have q2 := q2.lt
      have q3 := q3.lt
      have q4 := hln.hL
      have q5 := hln.hP
      have q6 := hln.hU
      have q7 := hbn.size
      simp at q4 q5 q6 q7
      have zz := hwn.size
      have hq := pr_new (b := w.heap.size) (m := m) (E := E) (r := wn.heap.size) (pb := wn.heap.size + 2) (rv := (.slice (some ⟨wn.heap.size + 1, 0, none⟩) 0 0)) (W := ((wn.alloc (.cells #[.slice none 0 0, .slice none 0 0, .bool false] 69)).alloc (.cells #[] 3)).alloc (PlayB L (wn.heap.size) (.slice (some ⟨wn.heap.size + 1, 0, none⟩) 0 0))) rfl (by first | (simp; done) | (simp; omega)) (by (repeat' (first | with_reducible exact Below.refl _ _ | with_reducible assumption | with_reducible refine Below.drew ?_ | with_reducible refine below_drewN ?_ _ | with_reducible refine Below.setCell ?_ ?_ _ | with_reducible refine Below.alloc ?_ ?_ _ | omega | (simp; done) | (simp; omega)))) HE.out HM.out (hln.below (by (repeat' (first | with_reducible exact Below.refl _ _ | with_reducible assumption | with_reducible refine Below.drew ?_ | with_reducible refine below_drewN ?_ _ | with_reducible refine Below.setCell ?_ ?_ _ | with_reducible refine Below.alloc ?_ ?_ _ | omega | (simp; done) | (simp; omega))))) (blk_old (blk_old (blk_new (by simp)))) (blk_new (by simp)) (by omega) (by omega) (by omega) (by omega)
      go_wp2_with fail
      go_meet
      exact ⟨L, P, U, wn.heap.size, wn.heap.size + 2, (.slice (some ⟨wn.heap.size + 1, 0, none⟩) 0 0), rfl, hq, (by show Below w.heap.size w (((wn.alloc (.cells #[.slice none 0 0, .slice none 0 0, .bool false] 69)).alloc (.cells #[] 3)).alloc (PlayB L (wn.heap.size) (.slice (some ⟨wn.heap.size + 1, 0, none⟩) 0 0))); (repeat' (first | with_reducible exact Below.refl _ _ | with_reducible assumption | with_reducible refine Below.drew ?_ | with_reducible refine below_drewN ?_ _ | with_reducible refine Below.setCell ?_ ?_ _ | with_reducible refine Below.alloc ?_ ?_ _ | omega | (simp; done) | (simp; omega))))⟩
    · have q1 := hln.lt
      obtain ⟨_, _, _, q2, _⟩ := hln.places
      obtain ⟨_, q3, _⟩ := hln.under
      have q2 := q2.lt
      have q3 := q3.lt
      have q4 := hln.hL
      have q5 := hln.hP
      have q6 := hln.hU
      have q7 := hbn.size
      simp at q4 q5 q6 q7
      have zz := hwn.size
      have hq := pr_new (b := w.heap.size) (m := m) (E := E) (r := wn.heap.size + 1) (pb := wn.heap.size + 2) (rv := (.slice (some ⟨wn.heap.size, 0, none⟩) 0 0)) (W := ((wn.alloc (.cells #[] 3)).alloc (.cells #[.slice none 0 0, .slice none 0 0, .bool false] 69)).alloc (PlayB L (wn.heap.size + 1) (.slice (some ⟨wn.heap.size, 0, none⟩) 0 0))) rfl (by first | (simp; done) | (simp; omega)) (by (repeat' (first | with_reducible exact Below.refl _ _ | with_reducible assumption | with_reducible refine Below.drew ?_ | with_reducible refine below_drewN ?_ _ | with_reducible refine Below.setCell ?_ ?_ _ | with_reducible refine Below.alloc ?_ ?_ _ | omega | (simp; done) | (simp; omega)))) HE.out HM.out (hln.below (by (repeat' (first | with_reducible exact Below.refl _ _ | with_reducible assumption | with_reducible refine Below.drew ?_ | with_reducible refine below_drewN ?_ _ | with_reducible refine Below.setCell ?_ ?_ _ | with_reducible refine Below.alloc ?_ ?_ _ | omega | (simp; done) | (simp; omega))))) (blk_old (blk_new (by simp))) (blk_new (by simp)) (by omega) (by omega) (by omega) (by omega)
      go_wp2_with fail
      go_meet
      exact ⟨L, P, U, wn.heap.size + 1, wn.heap.size + 2, (.slice (some ⟨wn.heap.size, 0, none⟩) 0 0), rfl, hq, (by show Below w.heap.size w (((wn.alloc (.cells #[] 3)).alloc (.cells #[.slice none 0 0, .slice none 0 0, .bool false] 69)).alloc (PlayB L (wn.heap.size + 1) (.slice (some ⟨wn.heap.size, 0, none⟩) 0 0))); (repeat' (first | with_reducible exact Below.refl _ _ | with_reducible assumption | with_reducible refine Below.drew ?_ | with_reducible refine below_drewN ?_ _ | with_reducible refine Below.setCell ?_ ?_ _ | with_reducible refine Below.alloc ?_ ?_ _ | omega | (simp; done) | (simp; omega))))⟩
    · have q1 := hln.lt
      obtain ⟨_, _, _, q2, _⟩ := hln.places
      obtain ⟨_, q3, _⟩ := hln.under
      have q2 := q2.lt
      have q3 := q3.lt
      have q4 := hln.hL
      have q5 := hln.hP
      have q6 := hln.hU
      have q7 := hbn.size
      simp at q4 q5 q6 q7
      have zz := hwn.size
      have hq := pr_new (b := w.heap.size) (m := m) (E := E) (r := w.heap.size) (pb := wn.heap.size + 1) (rv := (.slice (some ⟨wn.heap.size, 0, none⟩) 0 0)) (W := (wn.alloc (.cells #[] 3)).alloc (PlayB L (w.heap.size) (.slice (some ⟨wn.heap.size, 0, none⟩) 0 0))) rfl (by first | (simp; done) | (simp; omega)) (by (repeat' (first | with_reducible exact Below.refl _ _ | with_reducible assumption | with_reducible refine Below.drew ?_ | with_reducible refine below_drewN ?_ _ | with_reducible refine Below.setCell ?_ ?_ _ | with_reducible refine Below.alloc ?_ ?_ _ | omega | (simp; done) | (simp; omega)))) HE.out HM.out (hln.below (by (repeat' (first | with_reducible exact Below.refl _ _ | with_reducible assumption | with_reducible refine Below.drew ?_ | with_reducible refine below_drewN ?_ _ | with_reducible refine Below.setCell ?_ ?_ _ | with_reducible refine Below.alloc ?_ ?_ _ | omega | (simp; done) | (simp; omega))))) (blk_old (blk_old ((hbn.block _ (by first | (simp; done) | (simp; omega))).trans (blk_new (by simp))))) (blk_new (by simp)) (by omega) (by omega) (by omega) (by omega)
      go_wp2_with fail
      go_meet
      exact ⟨L, P, U, w.heap.size, wn.heap.size + 1, (.slice (some ⟨wn.heap.size, 0, none⟩) 0 0), rfl, hq, (by show Below w.heap.size w ((wn.alloc (.cells #[] 3)).alloc (PlayB L (w.heap.size) (.slice (some ⟨wn.heap.size, 0, none⟩) 0 0))); (repeat' (first | with_reducible exact Below.refl _ _ | with_reducible assumption | with_reducible refine Below.drew ?_ | with_reducible refine below_drewN ?_ _ | with_reducible refine Below.setCell ?_ ?_ _ | with_reducible refine Below.alloc ?_ ?_ _ | omega | (simp; done) | (simp; omega))))⟩
    · have q1 := hln.lt
      obtain ⟨_, _, _, q2, _⟩ := hln.places
      obtain ⟨_, q3, _⟩ := hln.under
      have q2 := q2.lt
      have q3 := q3.lt
      have q4 := hln.hL
      have q5 := hln.hP
      have q6 := hln.hU
      have q7 := hbn.size
      simp at q4 q5 q6 q7
      have zz := hwn.size
      have hq := pr_new (b := w.heap.size) (m := m) (E := E) (r := w.heap.size) (pb := wn.heap.size) (rv := (.slice (some ⟨w.heap.size + 1, 0, none⟩) 0 0)) (W := wn.alloc (PlayB L (w.heap.size) (.slice (some ⟨w.heap.size + 1, 0, none⟩) 0 0))) rfl (by first | (simp; done) | (simp; omega)) (by (repeat' (first | with_reducible exact Below.refl _ _ | with_reducible assumption | with_reducible refine Below.drew ?_ | with_reducible refine below_drewN ?_ _ | with_reducible refine Below.setCell ?_ ?_ _ | with_reducible refine Below.alloc ?_ ?_ _ | omega | (simp; done) | (simp; omega)))) HE.out HM.out (hln.below (by (repeat' (first | with_reducible exact Below.refl _ _ | with_reducible assumption | with_reducible refine Below.drew ?_ | with_reducible refine below_drewN ?_ _ | with_reducible refine Below.setCell ?_ ?_ _ | with_reducible refine Below.alloc ?_ ?_ _ | omega | (simp; done) | (simp; omega))))) (blk_old ((hbn.block _ (by first | (simp; done) | (simp; omega))).trans (blk_old (blk_new (by simp))))) (blk_new (by simp)) (by omega) (by omega) (by omega) (by omega)
      go_wp2_with fail
      go_meet
      exact ⟨L, P, U, w.heap.size, wn.heap.size, (.slice (some ⟨w.heap.size + 1, 0, none⟩) 0 0), rfl, hq, (by show Below w.heap.size w (wn.alloc (PlayB L (w.heap.size) (.slice (some ⟨w.heap.size + 1, 0, none⟩) 0 0))); (repeat' (first | with_reducible exact Below.refl _ _ | with_reducible assumption | with_reducible refine Below.drew ?_ | with_reducible refine below_drewN ?_ _ | with_reducible refine Below.setCell ?_ ?_ _ | with_reducible refine Below.alloc ?_ ?_ _ | omega | (simp; done) | (simp; omega))))⟩
    · have q1 := hln.lt
      obtain ⟨_, _, _, q2, _⟩ := hln.places
      obtain ⟨_, q3, _⟩ := hln.under
      have q2 := q2.lt
      have q3 := q3.lt
      have q4 := hln.hL
      have q5 := hln.hP
      have q6 := hln.hU
      have q7 := hbn.size
      simp at q4 q5 q6 q7
      have zz := hwn.size
      have hq := pr_new (b := w.heap.size) (m := m) (E := E) (r := wn.heap.size) (pb := wn.heap.size + 1) (rv := (.slice (some ⟨w.heap.size, 0, none⟩) 0 0)) (W := (wn.alloc (.cells #[.slice none 0 0, .slice none 0 0, .bool false] 69)).alloc (PlayB L (wn.heap.size) (.slice (some ⟨w.heap.size, 0, none⟩) 0 0))) rfl (by first | (simp; done) | (simp; omega)) (by (repeat' (first | with_reducible exact Below.refl _ _ | with_reducible assumption | with_reducible refine Below.drew ?_ | with_reducible refine below_drewN ?_ _ | with_reducible refine Below.setCell ?_ ?_ _ | with_reducible refine Below.alloc ?_ ?_ _ | omega | (simp; done) | (simp; omega)))) HE.out HM.out (hln.below (by (repeat' (first | with_reducible exact Below.refl _ _ | with_reducible assumption | with_reducible refine Below.drew ?_ | with_reducible refine below_drewN ?_ _ | with_reducible refine Below.setCell ?_ ?_ _ | with_reducible refine Below.alloc ?_ ?_ _ | omega | (simp; done) | (simp; omega))))) (blk_old (blk_new (by simp))) (blk_new (by simp)) (by omega) (by omega) (by omega) (by omega)
      go_wp2_with fail
      go_meet
      exact ⟨L, P, U, wn.heap.size, wn.heap.size + 1, (.slice (some ⟨w.heap.size, 0, none⟩) 0 0), rfl, hq, (by show Below w.heap.size w ((wn.alloc (.cells #[.slice none 0 0, .slice none 0 0, .bool false] 69)).alloc (PlayB L (wn.heap.size) (.slice (some ⟨w.heap.size, 0, none⟩) 0 0))); (repeat' (first | with_reducible exact Below.refl _ _ | with_reducible assumption | with_reducible refine Below.drew ?_ | with_reducible refine below_drewN ?_ _ | with_reducible refine Below.setCell ?_ ?_ _ | with_reducible refine Below.alloc ?_ ?_ _ | omega | (simp; done) | (simp; omega))))⟩
    · have q1 := hln.lt
      obtain ⟨_, _, _, q2, _⟩ := hln.places
      obtain ⟨_, q3, _⟩ := hln.under
      have q2 := q2.lt
      have q3 := q3.lt
      have q4 := hln.hL
      have q5 := hln.hP
      have q6 := hln.hU
      have q7 := hbn.size
      simp at q4 q5 q6 q7
      have zz := hwn.size
      have hq := pr_new (b := w.heap.size) (m := m) (E := E) (r := w.heap.size + 1) (pb := wn.heap.size) (rv := (.slice (some ⟨w.heap.size, 0, none⟩) 0 0)) (W := wn.alloc (PlayB L (w.heap.size + 1) (.slice (some ⟨w.heap.size, 0, none⟩) 0 0))) rfl (by first | (simp; done) | (simp; omega)) (by (repeat' (first | with_reducible exact Below.refl _ _ | with_reducible assumption | with_reducible refine Below.drew ?_ | with_reducible refine below_drewN ?_ _ | with_reducible refine Below.setCell ?_ ?_ _ | with_reducible refine Below.alloc ?_ ?_ _ | omega | (simp; done) | (simp; omega)))) HE.out HM.out (hln.below (by (repeat' (first | with_reducible exact Below.refl _ _ | with_reducible assumption | with_reducible refine Below.drew ?_ | with_reducible refine below_drewN ?_ _ | with_reducible refine Below.setCell ?_ ?_ _ | with_reducible refine Below.alloc ?_ ?_ _ | omega | (simp; done) | (simp; omega))))) (blk_old ((hbn.block _ (by first | (simp; done) | (simp; omega))).trans (blk_new (by simp)))) (blk_new (by simp)) (by omega) (by omega) (by omega) (by omega)
      go_wp2_with fail
      go_meet
      exact ⟨L, P, U, w.heap.size + 1, wn.heap.size, (.slice (some ⟨w.heap.size, 0, none⟩) 0 0), rfl, hq, (by show Below w.heap.size w (wn.alloc (PlayB L (w.heap.size + 1) (.slice (some ⟨w.heap.size, 0, none⟩) 0 0))); (repeat' (first | with_reducible exact Below.refl _ _ | with_reducible assumption | with_reducible refine Below.drew ?_ | with_reducible refine below_drewN ?_ _ | with_reducible refine Below.setCell ?_ ?_ _ | with_reducible refine Below.alloc ?_ ?_ _ | omega | (simp; done) | (simp; omega))))⟩
  case rest =>
    as_aux_lemma =>
    obtain ⟨L, P, U, r, pb, rv, rfl, hP, hb⟩ := hcut
    obtain ⟨w1, rfl⟩ : ∃ x : World, x = wc := ⟨_, rfl⟩
    have k0 : w1.cell? ⟨pb, 1, none⟩ = some (.pointer (some ⟨L, 0, none⟩)) := hP.out.bx.cell 1
    go_wp2_with fail
    go_loopw [7] (fun iv wr => ∃ (k um : Nat) (v vr : Value), k ≤ 200 ∧ iv = .int .i64 k ∧ Hid (Pl w.heap.size E m L P U r pb rv wr v vr (zN k) um ∧ Below w.heap.size w wr)) (fun iv _ => 200 - (intOf iv).toNat)
    case atStart => exact ⟨0, 0, _, _, by omega, rfl, hP.out, hb⟩
    case round =>
      clear hP k0
      obtain ⟨k, um, v, vr, hk, rfl, hH⟩ := hrel
      obtain ⟨w2, rfl⟩ : ∃ x, x = wr := ⟨wr, rfl⟩
      by_cases hlt : (k : Int) < n
      · by_cases hl2 : k < 200
        · have m2 : (k : Int) < 200 := by omega
          go_wp2_with fail
          go_loopw [8, 9] (fun sv kv wr => ∃ j : Nat, j ≤ 3 ∧ sv = .string (stepZ k j) ∧ kv = .int .i64 j ∧ Below w2.heap.size w2 wr) (fun _ kv _ => 3 - (intOf kv).toNat)
          case atStart => exact ⟨0, by omega, rfl, rfl, by (repeat' (first | with_reducible exact Below.refl _ _ | with_reducible assumption | with_reducible refine Below.drew ?_ | with_reducible refine below_drewN ?_ _ | with_reducible refine Below.setCell ?_ ?_ _ | with_reducible refine Below.alloc ?_ ?_ _ | omega | (simp; done) | (simp; omega)))⟩
          case round =>
            obtain ⟨j, hj, rfl, rfl, hbj⟩ := hrel
            rcases (by omega : j = 0 ∨ j = 1 ∨ j = 2 ∨ j = 3) with rfl | rfl | rfl | rfl
            · obtain ⟨a, ha⟩ : ∃ a, k / 1 % 16 = a := ⟨_, rfl⟩
              have b0 : bits .and .i64 (k : Int) 15 = (a : Int) := by
                have h1 := and15 (a := k) (by omega)
                rw [← ha]
                rw [h1, Nat.div_one]
              have a1 : a < 16 := by omega
              obtain ⟨x, hx⟩ : ∃ x : Int, 97 + (a : Int) = x := ⟨_, rfl⟩
              have h1 := run_letter x (by omega) (by omega)
              have x1 : x.toNat = 97 + a := by omega
              rw [x1] at h1
              have HST : Hid (stepZ k (0 + 1) = stepZ k 0 ++ ⟨#[UInt8.ofNat (97 + a)]⟩) := by show stepZ k 0 ++ _ = _; rw [← ha]
              have z1 := stepZ_size k 0
              have z2 : (⟨#[UInt8.ofNat (97 + a)]⟩ : ByteArray).size = 1 := rfl
              clear ha x1
              go_wp2_with fail
              go_roundw
              case rel => exact ⟨0 + 1, by omega, by rw [HST.out, UInt8.ofNat_add]; rfl, by go_num, hbj⟩
              case measure => simp [intOf]
            · obtain ⟨a, ha⟩ : ∃ a, k / 16 % 16 = a := ⟨_, rfl⟩
              have b0 : bits .and .i64 ((k : Int) / 16) 15 = (a : Int) := by
                have h1 := and15 (a := (k / 16)) (by omega)
                rw [← ha]
                rw [← h1]; rfl
              have a1 : a < 16 := by omega
              obtain ⟨x, hx⟩ : ∃ x : Int, 97 + (a : Int) = x := ⟨_, rfl⟩
              have h1 := run_letter x (by omega) (by omega)
              have x1 : x.toNat = 97 + a := by omega
              rw [x1] at h1
              have HST : Hid (stepZ k (1 + 1) = stepZ k 1 ++ ⟨#[UInt8.ofNat (97 + a)]⟩) := by show stepZ k 1 ++ _ = _; rw [← ha]
              have z1 := stepZ_size k 1
              have z2 : (⟨#[UInt8.ofNat (97 + a)]⟩ : ByteArray).size = 1 := rfl
              clear ha x1
              go_wp2_with fail
              go_roundw
              case rel => exact ⟨1 + 1, by omega, by rw [HST.out, UInt8.ofNat_add]; rfl, by go_num, hbj⟩
              case measure => simp [intOf]
            · obtain ⟨a, ha⟩ : ∃ a, k / 256 % 16 = a := ⟨_, rfl⟩
              have b0 : bits .and .i64 ((k : Int) / 256) 15 = (a : Int) := by
                have h1 := and15 (a := (k / 256)) (by omega)
                rw [← ha]
                rw [← h1]; rfl
              have a1 : a < 16 := by omega
              obtain ⟨x, hx⟩ : ∃ x : Int, 97 + (a : Int) = x := ⟨_, rfl⟩
              have h1 := run_letter x (by omega) (by omega)
              have x1 : x.toNat = 97 + a := by omega
              rw [x1] at h1
              have HST : Hid (stepZ k (2 + 1) = stepZ k 2 ++ ⟨#[UInt8.ofNat (97 + a)]⟩) := by show stepZ k 2 ++ _ = _; rw [← ha]
              have z1 := stepZ_size k 2
              have z2 : (⟨#[UInt8.ofNat (97 + a)]⟩ : ByteArray).size = 1 := rfl
              clear ha x1
              go_wp2_with fail
              go_roundw
              case rel => exact ⟨2 + 1, by omega, by rw [HST.out, UInt8.ofNat_add]; rfl, by go_num, hbj⟩
              case measure => simp [intOf]
            · have hnm := nameZ_ok hl2
              have HMAY : Hid (mayE (nameB (nameZ k)) (zN k) [] false (nameZ k) 1 = none) := by
                have h1 := zN_free hl2
                have h2 := zN_len k
                show _ = _
                simp [mayE, h1, hnm.1, roomE, h2, inB]
                omega
              have HP2 := Lib.hid (hH.out.1)
              have HNO := Lib.hid ((HP2.out.pr.st.below hbj).noteOk (nameZ k) (k : Int) hnm.2.1 HMAY.out)
              have k0 : wr.cell? ⟨pb, 1, none⟩ = some (.pointer (some ⟨L, 0, none⟩)) := (HP2.out.bx.below hbj).cell 1
              have HFR := Lib.hid (zN_free hl2)
              have HNB := Lib.hid hnm.1
              have HSU := Lib.hid (zN_succ k)
              clear hnm
              have hnz : stepZ k 3 = nameZ k := rfl
              rw [hnz]
              clear hnz
              go_wp2_with fail
              refine HNO.out.mono ?_
              rintro e w3 ⟨rfl, v3, s3, k3⟩
              have HP3 := Lib.hid (HP2.out.pr.below hbj)
              have HLF := Lib.hid (HP3.out.left s3 k3)
              have HB3 := Lib.hid (HP3.out.st.keepB k3 (by simp))
              have S3 := Lib.hid s3
              have hpf : Hid (Far L P U v3 w3 pb ∧ w3.heap[pb]? = some (PlayB L r rv)) := k3.box (HP2.out.bx.below hbj) (by simp)
              have k1 : w3.cell? ⟨pb, 2, none⟩ = some (.pointer (some ⟨r, 0, none⟩)) := Box.cell (L := L) (P := P) (U := U) (v := v3) hpf.out 2
              have HNR := Lib.hid (noteR_ok w.heap.size r vr (zN k) (nameZ k) (k : Int) w3 HLF.out.1 HFR.out HNB.out (by rw [zN_len]; exact hl2) S3.out.hb)
              clear s3 k3
              go_wp2_with fail
              refine HNR.out.mono ?_
              rintro e w4 ⟨rfl, vr4, r4, k4⟩
              have HPR := Lib.hid (Pr.right S3.out HLF.out.1 HLF.out.2 r4 k4)
              have HK4 := Lib.hid k4
              clear r4 k4
              go_wp2_with fail
              go_roundw
              case rel =>
                have hnr : pb ≠ r ∧ vr.ownBlock ≠ some pb := HP2.out.ne
                have hkeep : w4.heap[pb]? = w3.heap[pb]? := HK4.out.block pb hpf.out.1.lt hnr.1 hnr.1 hnr.1 hnr.2 (by simp)
                have hne4 : vr4.ownBlock ≠ some pb := fun e => by
                  rcases HK4.out.row pb e with e2 | e2
                  · exact hnr.2 e2
                  · have := hpf.out.1.lt; omega
                have hpl : Pl w.heap.size E m L P U r pb rv w4 v3 vr4 (zN (k + 1)) um := ⟨by rw [HSU.out]; exact HPR.out, ⟨⟨by have := HK4.out.size; have := hpf.out.1.lt; omega, hpf.out.1.nL, hpf.out.1.nP, hpf.out.1.nU, hpf.out.1.nv⟩, hkeep.trans hpf.out.2⟩, ⟨hnr.1, hne4⟩, HP2.out.hpb⟩
                have hb4 : Below w.heap.size w w4 := (hH.out.2.trans (hbj.mono hH.out.2.size)).trans (HB3.out.trans (HK4.out.below HLF.out.1.hr HLF.out.1.hr HLF.out.1.hr (fun k e => (HLF.out.1.own.lt k e).1) (by simp) S3.out.hb))
                exact ⟨k + 1, um, v3, vr4, by omega, by go_num, hpl, hb4⟩
              case measure => simp [intOf]; omega
        · have m2 : ¬ (k : Int) < 200 := by omega
          go_wp2_with fail
          go_ret2
          exact ⟨L, P, U, r, pb, rfl, ⟨rv, v, vr, k, um, hH.out.1, by omega⟩, hH.out.2⟩
      · go_wp2_with fail
        go_ret2
        exact ⟨L, P, U, r, pb, rfl, ⟨rv, v, vr, k, um, hH.out.1, by omega⟩, hH.out.2⟩

end Go.Proofs.YtodlbfekoohpoaaDoor
