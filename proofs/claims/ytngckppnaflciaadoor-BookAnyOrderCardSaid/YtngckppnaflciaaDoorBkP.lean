/- Provisions as values: cells, what lies in memory; prov.Clone: a walk. -/
import Derived.Test.YtngckppnaflciaaDoorBkH
namespace Go.Proofs.YtngckppnaflciaaDoor
open Go.RowKit

/-- a provision -/
structure Pv where
  id : ByteArray
  key : ByteArray
  s0 : Int
  s1 : Int
  ena : Int
  rank : Int
  rep : ByteArray
  kind : Int
  n : Int
  d : Int
  scale : List BI
  rule : ByteArray
  mode : Int
  un : Int
  ud : Int

/-- its cells, with its scale at A -/
def pvL (p : Pv) (A : Option Addr) (c : Nat) : List Value := [.string p.id, .string p.key, .int .i64 p.s0, .int .i64 p.s1, .int .i64 p.ena, .int .i64 p.rank, .string p.rep, .int .i64 p.kind, .int .i64 p.n, .int .i64 p.d, .slice A p.scale.length c, .string p.rule, .int .i64 p.mode, .int .i64 p.un, .int .i64 p.ud]
def pvV (p : Pv) (A : Option Addr) (c : Nat) : Value := .agg #[.string p.id, .string p.key, .int .i64 p.s0, .int .i64 p.s1, .int .i64 p.ena, .int .i64 p.rank, .string p.rep, .int .i64 p.kind, .int .i64 p.n, .int .i64 p.d, .slice A p.scale.length c, .string p.rule, .int .i64 p.mode, .int .i64 p.un, .int .i64 p.ud]
theorem pvL_len (p : Pv) (A : Option Addr) (c : Nat) : (pvL p A c).length = 15 := rfl
/-- what is known of a provision's scale in memory -/
structure PvAt (w : World) (B : Nat) (p : Pv) (A : Option Addr) (c : Nat) : Prop where
  row : RowAt encR 4 w B A p.scale
  cap : A = none → c = 0
theorem PvAt.below {w w' : World} {B B' : Nat} {p : Pv} {A : Option Addr} {c : Nat} (h : PvAt w B p A c) (hb : Below B' w w') (hB : B ≤ B') : PvAt w' B p A c := ⟨h.row.below hb hB, h.cap⟩
theorem PvAt.more {w : World} {B B' : Nat} {p : Pv} {A : Option Addr} {c : Nat} (h : PvAt w B p A c) (hB : B ≤ B') : PvAt w B' p A c := ⟨h.row.more hB, h.cap⟩
theorem PvAt.step {w w' : World} {p : Pv} {A : Option Addr} {c : Nat} (h : PvAt w w.heap.size p A c) (hb : Below w.heap.size w w') : PvAt w' w'.heap.size p A c := (h.below hb (Nat.le_refl _)).more hb.size
/-- numbers that the code can hold -/
structure PvIn (p : Pv) : Prop where
  n : In8 p.n
  d : In8 p.d
  un : In8 p.un
  ud : In8 p.ud
  sc : ∀ b ∈ p.scale, In4 b
  len : p.scale.length ≤ 1000000
  key : p.key.size < 4294967281

/-- cells of one block written, one by one -/
def setAll : World → Nat → Nat → List Value → World
  | w, _, _, [] => w
  | w, g, i, v :: r => setAll (w.setCell ⟨g, i, none⟩ v) g (i + 1) r
theorem setAll_size (w : World) (g : Nat) : ∀ (i : Nat) (l : List Value), (setAll w g i l).heap.size = w.heap.size := by
  intro i l
  induction l generalizing w i with
  | nil => rfl
  | cons v r ih => rw [setAll, ih]; simp
theorem setAll_other {w : World} {g k : Nat} {x : Option Obj} (h : w.heap[k]? = x) (hk : k ≠ g) : ∀ (i : Nat) (l : List Value), (setAll w g i l).heap[k]? = x := by
  intro i l
  induction l generalizing w i with
  | nil => exact h
  | cons v r ih => exact ih (setOther h hk) _
theorem setAll_cell {w : World} {g : Nat} {p : Addr} {v : Value} (h : w.cell? p = some v) (hk : p.block ≠ g) (i : Nat) (l : List Value) : (setAll w g i l).cell? p = some v :=
  (World.cell?_of_block (w := w) (a := p) (setAll_other rfl hk i l)).trans h
theorem setAll_below {a w : World} {b g : Nat} (h : Below b a w) (hg : b ≤ g) : ∀ (i : Nat) (l : List Value), Below b a (setAll w g i l) := by
  intro i l
  induction l generalizing w i with
  | nil => exact h
  | cons v r ih => exact ih (h.setCell hg v) _
theorem setAll_at {w : World} {g : Nat} {t : TypeId} {z : Nat × Nat} : ∀ (l done rest : List Value), w.heap[g]? = some (.cells (done ++ rest).toArray t z) → l.length = rest.length → (setAll w g done.length l).heap[g]? = some (.cells (done ++ l).toArray t z) := by
  intro l
  induction l generalizing w with
  | nil => intro done rest h hl; obtain rfl := List.eq_nil_of_length_eq_zero hl.symm; exact h
  | cons v r ih =>
    intro done rest h hl
    cases rest with
    | nil => simp at hl
    | cons x rest =>
      have h2 : (w.setCell ⟨g, done.length, none⟩ v).heap[g]? = some (.cells ((done ++ [v]) ++ rest).toArray t z) := by
        simp [World.setCell, Array.getElem?_modify, h]
      have := ih (done ++ [v]) rest h2 (by simpa using hl)
      rw [List.length_append, List.length_singleton] at this
      rw [setAll, this]; simp
theorem setAll_same {w : World} {g : Nat} {cs : Array Value} {t : TypeId} {z : Nat × Nat} {l : List Value} (h : w.heap[g]? = some (.cells cs t z)) (hl : l.length = cs.size) : (setAll w g 0 l).heap[g]? = some (.cells l.toArray t z) := by
  have := setAll_at (w := w) (g := g) (t := t) (z := z) l [] cs.toList (by simpa using h) (by simpa using hl)
  simpa using this

theorem infoBr : (Tryd.prog.info? 97).map (fun i => (i.zero, i.size, i.bytes)) = some (some (.agg #[.int .i64 0, .int .i64 0, .int .i64 0, .int .i64 0]), 4, 32) := by kernel_rfl

set_option maxRecDepth 100000 in
set_option maxHeartbeats 8000000 in
theorem clone_is (id key : ByteArray) (s0 s1 ena rank : Int) (rep : ByteArray) (kind n d : Int) (l : List BI) (rule : ByteArray) (mode un ud : Int) (A : Option Addr) (c : Nat) (w : World) (hr : RowAt encR 4 w w.heap.size A l) (hA : A = none → c = 0) (hl : l.length ≤ 1000000) :
    Calls Tryd.prog 19 #[.agg #[.string id, .string key, .int .i64 s0, .int .i64 s1, .int .i64 ena, .int .i64 rank, .string rep, .int .i64 kind, .int .i64 n, .int .i64 d, .slice A l.length c, .string rule, .int .i64 mode, .int .i64 un, .int .i64 ud]] w fun e w' => (∃ A' c', e = .returned (.agg #[.string id, .string key, .int .i64 s0, .int .i64 s1, .int .i64 ena, .int .i64 rank, .string rep, .int .i64 kind, .int .i64 n, .int .i64 d, .slice A' l.length c', .string rule, .int .i64 mode, .int .i64 un, .int .i64 ud]) ∧ RowAt encR 4 w' w'.heap.size A' l ∧ (A' = none → c' = 0) ∧ ∀ a, A' = some a → w.heap.size ≤ a.block) ∧ Below w.heap.size w w' := by
  obtain ⟨inf0, hi, jz0, jz1, jz2⟩ := info_parts infoBr
  have HF := Lib.hid (fun (w' : World) (h : Below w.heap.size w w') => rowFlat encR_len (by decide) (hr.below h (Nat.le_refl _)))
  have HN := Lib.hid (encR_flat l)
  have H1 := Lib.hid (encR_one l)
  have HA : Hid (A = none → l.length = 0 ∧ c = 0) := Lib.hid (fun h => ⟨by
    cases l with
    | nil => rfl
    | cons x r => exact absurd (hr 0 x rfl) (by rw [h]; rintro ⟨b, off, e, _⟩; cases e), hA h⟩)
  clear hr hA
  go_enter Tryd.func19, Tryd.ntmps19
  go_upto_region 2 with (at_builtin; go_must (refine wpList_append_any rfl (.const (.slice none 0 0)) (.tmp 5) 37 rfl (w.heap.size + 1 + 1) 97 inf0 _ 4 32 Tryd.underlying37 hi jz0 jz1 jz2 rfl (by decide) _ 0 [] rfl (World.ownsRow_nil _ _ _ _) A l.length c (l.flatMap encR) rfl HN.out (HF.out _ (by (repeat' (first | with_reducible exact Below.refl _ _ | with_reducible assumption | with_reducible refine Below.drew ?_ | with_reducible refine below_drewN ?_ _ | with_reducible refine Below.setCell ?_ ?_ _ | with_reducible refine Below.alloc ?_ ?_ _ | omega | (simp; done) | (simp; omega))))) HA.out H1.out (by unfold maxLen; omega) (by omega) (by simp) ?_); intro v2 w2 hown2 hgrow2; obtain ⟨A2, c2, rfl, hr2, hc2, ha2⟩ := own_line (l := l) (enc := encR) (size := 4) (e := 97) (base := w.heap.size + 1 + 1) (w := w2) (v := v2) (fun x _ => encR_len x) (by unfold Own; simpa using hown2); have hw2 : Below w.heap.size w w2 := Below.grown (by (repeat' (first | with_reducible exact Below.refl _ _ | with_reducible assumption | with_reducible refine Below.drew ?_ | with_reducible refine below_drewN ?_ _ | with_reducible refine Below.setCell ?_ ?_ _ | with_reducible refine Below.alloc ?_ ?_ _ | omega | (simp; done) | (simp; omega)))) hgrow2 (by simp; omega) (fun g hg => by cases hg); have P2 : Hid (w2.heap[w.heap.size]? = some (.cells #[.string id, .string key, .int .i64 s0, .int .i64 s1, .int .i64 ena, .int .i64 rank, .string rep, .int .i64 kind, .int .i64 n, .int .i64 d, .slice A l.length c, .string rule, .int .i64 mode, .int .i64 un, .int .i64 ud] 43 (0, 0))) := Lib.hid ((hgrow2.block _ (by simp; omega) (show some w.heap.size ≠ (none : Option Nat) by simp)).trans (blk_old (blk_new rfl))); have Q2 : Hid (w2.heap[w.heap.size + 1]? = some (.cells #[.string ByteArray.empty, .string ByteArray.empty, .int .i64 0, .int .i64 0, .int .i64 0, .int .i64 0, .string ByteArray.empty, .int .i64 0, .int .i64 0, .int .i64 0, .slice none 0 0, .string ByteArray.empty, .int .i64 0, .int .i64 0, .int .i64 0] 43 (0, 0))) := Lib.hid ((hgrow2.block _ (by simp) (show some (w.heap.size + 1) ≠ (none : Option Nat) by simp)).trans (blk_new (by simp))); have HR2 := Lib.hid hr2; have HA2 := Lib.hid ha2; have HC2 := Lib.hid hc2; clear hr2 ha2 hc2 hown2 hgrow2; have cP := cellH P2; have fP := frozH P2; obtain ⟨lP, lP1, lP2⟩ := ltH P2)
  have hw3 : Below w.heap.size w (w2.setCell ⟨w.heap.size, 10, none⟩ (.slice A2 l.length c2)) := by (repeat' (first | with_reducible exact Below.refl _ _ | with_reducible assumption | with_reducible refine Below.drew ?_ | with_reducible refine below_drewN ?_ _ | with_reducible refine Below.setCell ?_ ?_ _ | with_reducible refine Below.alloc ?_ ?_ _ | omega | (simp; done) | (simp; omega)))
  have P3 : Hid ((w2.setCell ⟨w.heap.size, 10, none⟩ (.slice A2 l.length c2)).heap[w.heap.size]? = some (.cells #[.string id, .string key, .int .i64 s0, .int .i64 s1, .int .i64 ena, .int .i64 rank, .string rep, .int .i64 kind, .int .i64 n, .int .i64 d, .slice A2 l.length c2, .string rule, .int .i64 mode, .int .i64 un, .int .i64 ud] 43 (0, 0))) := by
    show _ = _
    have h := P2.out
    simp [World.setCell, Array.getElem?_modify, h]
  have Q3 : Hid ((w2.setCell ⟨w.heap.size, 10, none⟩ (.slice A2 l.length c2)).heap[w.heap.size + 1]? = some (.cells #[.string ByteArray.empty, .string ByteArray.empty, .int .i64 0, .int .i64 0, .int .i64 0, .int .i64 0, .string ByteArray.empty, .int .i64 0, .int .i64 0, .int .i64 0, .slice none 0 0, .string ByteArray.empty, .int .i64 0, .int .i64 0, .int .i64 0] 43 (0, 0))) := Lib.hid (setOther Q2.out (by simp))
  have HR3 : Hid (RowAt encR 4 (w2.setCell ⟨w.heap.size, 10, none⟩ (.slice A2 l.length c2)) w2.heap.size A2 l) := Lib.hid (fun k x hx => by
    obtain ⟨b, off, h1, h2, h3⟩ := HR2.out k x hx
    exact ⟨b, off, h1, h2, fun j u hj => cell_set (h3 j u hj) (by have := HA2.out _ h1; dsimp only at this ⊢; omega)⟩)
  have z3 : w2.heap.size = (w2.setCell ⟨w.heap.size, 10, none⟩ (.slice A2 l.length c2)).heap.size := by simp
  rw [z3] at HR3
  clear cP fP P2 Q2 HR2 z3 lP lP1 lP2 hw2
  generalize w2.setCell ⟨w.heap.size, 10, none⟩ (.slice A2 l.length c2) = w3 at *
  have cP := cellH P3
  have cQ := cellH Q3
  have fQ := frozH Q3
  obtain ⟨lP, lP1, lP2⟩ := ltH P3
  obtain ⟨lQ, lQ1, lQ2⟩ := ltH Q3
  go_wp2_with fail
  change bodyPost _ _ _ _ _ (setAll w3 (w.heap.size + 1) 0 [.string id, .string key, .int .i64 s0, .int .i64 s1, .int .i64 ena, .int .i64 rank, .string rep, .int .i64 kind, .int .i64 n, .int .i64 d, .slice A2 l.length c2, .string rule, .int .i64 mode, .int .i64 un, .int .i64 ud])
  have Q4 : Hid ((setAll w3 (w.heap.size + 1) 0 [.string id, .string key, .int .i64 s0, .int .i64 s1, .int .i64 ena, .int .i64 rank, .string rep, .int .i64 kind, .int .i64 n, .int .i64 d, .slice A2 l.length c2, .string rule, .int .i64 mode, .int .i64 un, .int .i64 ud]).heap[w.heap.size + 1]? = some (.cells #[.string id, .string key, .int .i64 s0, .int .i64 s1, .int .i64 ena, .int .i64 rank, .string rep, .int .i64 kind, .int .i64 n, .int .i64 d, .slice A2 l.length c2, .string rule, .int .i64 mode, .int .i64 un, .int .i64 ud] 43 (0, 0))) := Lib.hid (setAll_same Q3.out rfl)
  have hw4 : Below w.heap.size w (setAll w3 (w.heap.size + 1) 0 [.string id, .string key, .int .i64 s0, .int .i64 s1, .int .i64 ena, .int .i64 rank, .string rep, .int .i64 kind, .int .i64 n, .int .i64 d, .slice A2 l.length c2, .string rule, .int .i64 mode, .int .i64 un, .int .i64 ud]) := setAll_below hw3 (by omega) _ _
  have HR4 : Hid (RowAt encR 4 (setAll w3 (w.heap.size + 1) 0 [.string id, .string key, .int .i64 s0, .int .i64 s1, .int .i64 ena, .int .i64 rank, .string rep, .int .i64 kind, .int .i64 n, .int .i64 d, .slice A2 l.length c2, .string rule, .int .i64 mode, .int .i64 un, .int .i64 ud]) w3.heap.size A2 l) := Lib.hid (fun k x hx => by
    obtain ⟨b, off, h1, h2, h3⟩ := HR3.out k x hx
    exact ⟨b, off, h1, h2, fun j u hj => setAll_cell (h3 j u hj) (by have := HA2.out _ h1; dsimp only at this ⊢; omega) _ _⟩)
  have z4 : w3.heap.size = (setAll w3 (w.heap.size + 1) 0 [.string id, .string key, .int .i64 s0, .int .i64 s1, .int .i64 ena, .int .i64 rank, .string rep, .int .i64 kind, .int .i64 n, .int .i64 d, .slice A2 l.length c2, .string rule, .int .i64 mode, .int .i64 un, .int .i64 ud]).heap.size := (setAll_size _ _ _ _).symm
  rw [z4] at HR4
  clear z4 cP cQ fQ
  generalize setAll w3 (w.heap.size + 1) 0 [.string id, .string key, .int .i64 s0, .int .i64 s1, .int .i64 ena, .int .i64 rank, .string rep, .int .i64 kind, .int .i64 n, .int .i64 d, .slice A2 l.length c2, .string rule, .int .i64 mode, .int .i64 un, .int .i64 ud] = w4 at *
  have cQ := cellH Q4
  exact bodyPost_ret (v := .agg #[.string id, .string key, .int .i64 s0, .int .i64 s1, .int .i64 ena, .int .i64 rank, .string rep, .int .i64 kind, .int .i64 n, .int .i64 d, .slice A2 l.length c2, .string rule, .int .i64 mode, .int .i64 un, .int .i64 ud]) (by simp [results, Tryd.results19, go_sem, cQ]) rfl ⟨⟨A2, c2, rfl, HR4.out, HC2.out, fun a ha => by have := HA2.out a ha; omega⟩, hw4⟩

theorem pclone_new (p : Pv) (A : Option Addr) (c : Nat) (w : World) (h : PvAt w w.heap.size p A c) (hl : p.scale.length ≤ 1000000) :
    Calls Tryd.prog 19 #[pvV p A c] w fun e w' => (∃ A' c', e = .returned (pvV p A' c') ∧ PvAt w' w'.heap.size p A' c' ∧ ∀ a, A' = some a → w.heap.size ≤ a.block) ∧ Below w.heap.size w w' :=
  (clone_is p.id p.key p.s0 p.s1 p.ena p.rank p.rep p.kind p.n p.d p.scale p.rule p.mode p.un p.ud A c w h.row h.cap hl).mono (fun e w' q => by
    obtain ⟨⟨A', c', h1, h2, h3, h5⟩, h4⟩ := q
    exact ⟨⟨A', c', h1, ⟨h2, h3⟩, h5⟩, h4⟩)
theorem pclone_any (p : Pv) (A : Option Addr) (c : Nat) (w : World) (h : PvAt w w.heap.size p A c) (hl : p.scale.length ≤ 1000000) :
    Calls Tryd.prog 19 #[pvV p A c] w fun e w' => (∃ A' c', e = .returned (pvV p A' c') ∧ PvAt w' w'.heap.size p A' c') ∧ Below w.heap.size w w' :=
  (pclone_new p A c w h hl).mono (fun e w' q => by
    obtain ⟨⟨A', c', h1, h2, _⟩, h4⟩ := q
    exact ⟨⟨A', c', h1, h2⟩, h4⟩)
/-- cells of another block are written -/
theorem PvAt.setAll {w : World} {p : Pv} {A : Option Addr} {c g : Nat} (h : PvAt w w.heap.size p A c) (hg : ∀ a, A = some a → a.block ≠ g) (i : Nat) (l : List Value) : PvAt (setAll w g i l) (setAll w g i l).heap.size p A c :=
  ⟨fun k x hx => by
    obtain ⟨b, off, h1, h2, h3⟩ := h.row k x hx
    exact ⟨b, off, h1, by rw [setAll_size]; exact h2, fun j u hj => setAll_cell (h3 j u hj) (by have := hg _ h1; exact this) _ _⟩, h.cap⟩
end Go.Proofs.YtngckppnaflciaaDoor
