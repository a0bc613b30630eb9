/- titheref.Ints; words for the law: walks and plain. -/
import Derived.Test.YtngckppnaflciaaDoorBlE
import Derived.Laws.MakeOwn
namespace Go.Proofs.YtngckppnaflciaaDoor
open Go.RowKit Go.Maps

theorem infoI : (Tryd.prog.info? 3).map (fun i => (i.zero, i.size, i.bytes)) = some (some (.int .i64 0), 1, 8) := by kernel_rfl
theorem infoBo : (Tryd.prog.info? 4).map (fun i => (i.zero, i.size, i.bytes)) = some (some (.bool false), 1, 1) := by kernel_rfl
theorem cellZ {w : World} {B : Nat} {A : Option Addr} {s : List Int} {k : Nat} {b : Int} (h : RowAt encZ 1 w B A s) (hk : s[k]? = some b) : ∃ g off, A = some ⟨g, off, none⟩ ∧ g < B ∧ w.cell? ⟨g, off + k, none⟩ = some (.int .i64 b) := by
  obtain ⟨g, off, rfl, hg, hc⟩ := h k b hk
  exact ⟨g, off, rfl, hg, by have := hc 0 _ rfl; simpa using this⟩

set_option maxRecDepth 100000 in
set_option maxHeartbeats 4000000 in
theorem ints_any (l : List Int) (A : Option Addr) (c : Nat) (w : World) (hl : RowAt encZ 1 w w.heap.size A l) (hn : l.length ≤ 1000000) :
    Calls Tryd.prog 6 #[.slice A l.length c] w fun e w' => (∃ v, e = .returned v ∧ Own encZ 1 3 w.heap.size w' v l) ∧ Below w.heap.size w w' := by
  obtain ⟨i0, hi, hz0, hz1, hz2⟩ := info_parts infoI
  have HL := Lib.hid hl
  clear hl
  go_enter Tryd.func6, Tryd.ntmps6
  go_wp2_with (at_make; refine wpList_make_own _ rfl _ _ 23 rfl w.heap.size 3 i0 _ 1 Tryd.underlying23 hi hz0 hz1 .i64 .i64 _ l.length rfl rfl rfl (by rw [hz2]; omega) (by unfold maxLen; omega) (Nat.le_refl _) ?_; intro w0 hown0 hgrow0)
  have hb0 : Below w.heap.size w w0 := (Below.refl _ _).grown hgrow0 (Nat.le_refl _) (fun k h => by cases h)
  go_loopw [3, 4] (fun v i wr => ∃ k : Nat, k ≤ l.length ∧ i = .int .i64 k ∧ wr.ownsRow w.heap.size 3 1 v k ((l.take k).flatMap encZ) ∧ Below w.heap.size w wr) (fun _ i _ => l.length - (intOf i).toNat)
  case atStart => exact ⟨0, Nat.zero_le _, rfl, hown0, hb0⟩
  case round =>
    obtain ⟨k, hk, rfl, hown, hb⟩ := hrel
    have hz := hb.size
    by_cases hlt : k < l.length
    · obtain ⟨x, hx⟩ : ∃ x, l[k]? = some x := ⟨l[k], List.getElem?_eq_getElem hlt⟩
      obtain ⟨g, off, rfl, hgB, k0⟩ := cellZ (HL.out.below hb (Nat.le_refl _)) hx
      have HX := Lib.hid hx
      clear hx
      go_wp2_with (at_builtin; go_must (refine wpList_append_own _ rfl (.tmp 14) (.tmp 19) 23 rfl w.heap.size 3 i0 _ 1 8 Tryd.underlying23 hi hz0 hz1 hz2 rfl (by decide) _ k _ rfl (hown.alloc _) ⟨wr.heap.size, 0, none⟩ 1 1 [.int .i64 x] rfl rfl (World.news_of_block (cs := #[.int .i64 x]) (blk_new rfl)) (by simp [Value.oneCell']) (by unfold maxLen; omega) (by omega) (by simp; omega) ?_); intro v' w9 hown' hgrow _)
      go_roundw
      case rel =>
        refine ⟨k + 1, by omega, by go_num, ?_, ?_⟩
        · rw [take_snoc HX.out, List.flatMap_append]; simpa [encZ] using hown'
        · exact (Below.alloc hb hz _).grown hgrow (by simp; omega) (fun g hg => (hown.lt g hg).1)
      case measure => simp [intOf]; omega
    · obtain rfl : k = l.length := by omega
      go_wp2
      go_ret
      exact ⟨⟨_, rfl, by unfold Own; simpa using hown⟩, hb⟩

/-- a row of bools -/
def boolC (T : List Bool) : Array Value := (T.map Value.bool).toArray
theorem made_bools (n : Nat) : madeCells #[.bool false] n = boolC (List.replicate n false) := by
  apply Array.ext_getElem?
  intro i
  unfold madeCells boolC
  by_cases h : i < n
  · simp [h, Nat.mod_one]
  · simp [h]
theorem bool_at {w : World} {tb : Nat} {T : List Bool} {t : TypeId} (h : w.heap[tb]? = some (.cells (boolC T) t (0, 0))) {j : Nat} {x : Bool} (hj : T[j]? = some x) : w.cell? ⟨tb, j, none⟩ = some (.bool x) := by
  rw [cellH (Lib.hid h)]
  unfold boolC
  simp [hj]
theorem bool_set {w : World} {tb : Nat} {T : List Bool} {t : TypeId} (h : w.heap[tb]? = some (.cells (boolC T) t (0, 0))) (i : Nat) (x : Bool) : (w.setCell ⟨tb, i, none⟩ (.bool x)).heap[tb]? = some (.cells (boolC (T.set i x)) t (0, 0)) := by
  unfold boolC at *
  simp [World.setCell, Array.getElem?_modify, h, List.map_set]
theorem bool_ne {w : World} {tb : Nat} {T : List Bool} {t : TypeId} (h : w.heap[tb]? = some (.cells (boolC T) t (0, 0))) {p : Addr} {v : Value} (hc : w.cell? p = some v) (hp : p.spot = none) (hv : ∀ x, v ≠ .bool x) : p.block ≠ tb := fun e => by
  obtain ⟨b, o, sp⟩ := p
  dsimp only at e hp
  subst e hp
  rw [cellH (Lib.hid h)] at hc
  unfold boolC at hc
  simp only [List.getElem?_toArray, List.getElem?_map] at hc
  obtain ⟨x, _, hx⟩ := Option.map_eq_some_iff.1 hc
  exact hv x hx.symm
theorem BookAt.setB {w : World} {b M tb i : Nat} {cl x : Bool} {S : List Pv} {T : List Bool} {t : TypeId} (h : BookAt w b M cl S) (hT : w.heap[tb]? = some (.cells (boolC T) t (0, 0))) : BookAt (w.setCell ⟨tb, i, none⟩ (.bool x)) b M cl S where
  box := setOther h.box (by
    have := bool_ne hT (cellH (Lib.hid h.box) 0) rfl (fun x e => by cases e)
    exact this)
  own := by
    obtain ⟨D, h1, h2⟩ := h.own
    refine ⟨D, h1.setCell (fun e => ?_) _, h2.isMap, h2.has, fun p hp => ?_, h2.nodup, h2.inn⟩
    · obtain ⟨es, c, hm⟩ := own_isMap h1
      dsimp only at e
      rw [e, hT] at hm; cases hm
    · obtain ⟨A, c, e1, e2⟩ := h2.at' p hp
      refine ⟨A, c, e1, fun k y hy => ?_, e2.cap⟩
      obtain ⟨g, off, q1, q2, q3⟩ := e2.row k y hy
      exact ⟨g, off, q1, by simpa using q2, fun j u hj => cell_set (q3 j u hj) (bool_ne hT (q3 j u hj) rfl (fun x e => by
        subst e
        simp only [encR] at hj
        rcases j with _ | _ | _ | _ | j <;> simp at hj))⟩
/-- what the law's loops leave as it was -/
theorem cell_keep {w w' : World} {M M' tb : Nat} (ho : OnlyL [M, M', tb] w w') (hM : ∃ es k, w.heap[M]? = some (.map es k)) (hM' : ∃ es k, w.heap[M']? = some (.map es k)) {p : Addr} {v : Value} (h : w.cell? p = some v) (hp : p.block < tb) : w'.cell? p = some v := by
  obtain ⟨es, k, hm⟩ := hM
  obtain ⟨es', k', hm'⟩ := hM'
  exact (World.cell?_of_block (w := w) (a := p) (ho.block p.block (cell_lt h) (by
    have h1 := map_ne_cell hm h
    have h2 := map_ne_cell hm' h
    simp [h1, h2]; omega))).trans h
theorem row_keep {α : Type} {enc : α → List Value} {size : Nat} {w w' : World} {M M' tb : Nat} (ho : OnlyL [M, M', tb] w w') (hM : ∃ es k, w.heap[M]? = some (.map es k)) (hM' : ∃ es k, w.heap[M']? = some (.map es k)) {A : Option Addr} {l : List α} (h : RowAt enc size w tb A l) : RowAt enc size w' tb A l := fun k x hx => by
  obtain ⟨b, off, h1, h2, h3⟩ := h k x hx
  exact ⟨b, off, h1, h2, fun j u hj => cell_keep ho hM hM' (h3 j u hj) h2⟩
theorem provs_keep {w w' : World} {M M' tb : Nat} (ho : OnlyL [M, M', tb] w w') (hM : ∃ es k, w.heap[M]? = some (.map es k)) (hM' : ∃ es k, w.heap[M']? = some (.map es k)) {A : Option Addr} {l : List Pv} (h : ProvsAt w tb A l) : ProvsAt w' tb A l := fun k p hk => by
  obtain ⟨b, off, F, c, h1, h2, h3, h4⟩ := h k p hk
  exact ⟨b, off, F, c, h1, h2, fun j u hj => cell_keep ho hM hM' (h3 j u hj) h2, row_keep ho hM hM' h4.row, h4.cap⟩

/-- one more place in an order -/
def insAt (ord : List Nat) (a k : Nat) : List Nat := ord.take a ++ [k] ++ ord.drop a
theorem insAt_perm {ord : List Nat} {k : Nat} (h : ord.Perm (List.range k)) (a : Nat) : (insAt ord a k).Perm (List.range (k + 1)) := by
  unfold insAt
  rw [List.range_succ, show ord.take a ++ [k] ++ ord.drop a = ord.take a ++ k :: ord.drop a by simp]
  refine List.perm_middle.trans ?_
  rw [List.take_append_drop]
  exact (List.Perm.cons k h).trans (List.perm_append_singleton k _).symm
end Go.Proofs.YtngckppnaflciaaDoor
