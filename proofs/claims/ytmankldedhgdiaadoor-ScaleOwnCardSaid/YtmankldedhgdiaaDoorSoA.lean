/- Brackets copied, compared, written over: walks. -/
import Derived.Test.YtmankldedhgdiaaDoorTopsA
import Derived.Test.YtmankldedhgdiaaDoorRef15
import Derived.Test.YtmankldedhgdiaaDoorSoL
namespace Go.Proofs.YtmankldedhgdiaaDoor
open Go.RowKit

set_option maxRecDepth 100000 in
set_option maxHeartbeats 2000000 in
theorem brackets_any (l : List BI) (A : Option Addr) (c : Nat) (w : World) (hl : RowAt encR 4 w w.heap.size A l) (hn : l.length ≤ 1000000) :
    Calls Tryd.prog 7 #[.slice A l.length c] w fun e w' => (∃ v, e = .returned v ∧ Own encR 4 31 w.heap.size w' v l) ∧ Below w.heap.size w w' := by
  obtain ⟨i0, hi, hz0, hz1, hz2⟩ := info_parts infoBr
  have HL := Lib.hid hl
  clear hl
  go_enter Tryd.func7, Tryd.ntmps7
  go_wp2_with (at_make; refine wpList_make_own _ rfl _ _ 22 rfl w.heap.size 31 i0 _ 4 Tryd.underlying22 hi hz0 hz1 .i64 .i64 _ l.length rfl rfl rfl (by rw [hz2]; omega) (by unfold maxLen; omega) (Nat.le_refl _) ?_; intro w0 hown0 hgrow0)
  have hb0 : Below w.heap.size w w0 := (Below.refl _ _).grown hgrow0 (Nat.le_refl _) (fun k h => by cases h)
  go_loopw [3, 4] (fun v i wr => ∃ k : Nat, k ≤ l.length ∧ i = .int .i64 k ∧ wr.ownsRow w.heap.size 31 4 v k ((l.take k).flatMap encR) ∧ Below w.heap.size w wr) (fun _ i _ => l.length - (intOf i).toNat)
  case atStart => exact ⟨0, Nat.zero_le _, rfl, hown0, hb0⟩
  case round =>
    obtain ⟨k, hk, rfl, hown, hb⟩ := hrel
    have hz := hb.size
    by_cases hlt : k < l.length
    · obtain ⟨⟨n1, d1, n2, d2⟩, hx⟩ : ∃ x, l[k]? = some x := ⟨l[k], List.getElem?_eq_getElem hlt⟩
      obtain ⟨g, off, rfl, hgB, k0, k1, k2, k3⟩ := cells4 (HL.out.below hb (Nat.le_refl _)) hx
      replace k0 : wr.cell? ⟨g, off + k * 4, none⟩ = some (.int .i64 n1) := k0
      replace k1 : wr.cell? ⟨g, off + k * 4 + 1, none⟩ = some (.int .i64 d1) := k1
      replace k2 : wr.cell? ⟨g, off + k * 4 + 2, none⟩ = some (.int .i64 n2) := k2
      replace k3 : wr.cell? ⟨g, off + k * 4 + 3, none⟩ = some (.int .i64 d2) := k3
      have HX := Lib.hid hx
      clear hx
      go_wp2_with (at_builtin; go_must (refine wpList_append_own _ rfl (.tmp 14) (.tmp 19) 22 rfl w.heap.size 31 i0 _ 4 32 Tryd.underlying22 hi hz0 hz1 hz2 rfl (by decide) _ k _ rfl (hown.alloc _) ⟨wr.heap.size, 0, none⟩ 1 1 [.int .i64 n1, .int .i64 d1, .int .i64 n2, .int .i64 d2] rfl rfl (World.news_of_block (cs := #[.int .i64 n1, .int .i64 d1, .int .i64 n2, .int .i64 d2]) (blk_new rfl)) (by simp [Value.oneCell']) (by unfold maxLen; omega) (by omega) (by simp; omega) ?_); intro v' w9 hown' hgrow _)
      go_roundw
      case rel =>
        refine ⟨k + 1, by omega, by go_num, ?_, ?_⟩
        · rw [take_snoc HX.out, List.flatMap_append]; simpa [encR] using hown'
        · exact (Below.alloc hb hz _).grown hgrow (by simp; omega) (fun g hg => (hown.lt g hg).1)
      case measure => simp [intOf]; omega
    · obtain rfl : k = l.length := by omega
      go_wp2
      go_ret
      exact ⟨⟨_, rfl, by unfold Own; simpa using hown⟩, hb⟩

set_option maxRecDepth 10000 in
set_option maxHeartbeats 4000000 in
/-- brackets that read alike are the same -/
theorem sameBr_any (l : List BI) (A B : Option Addr) (c d : Nat) (w : World) (hl : RowAt encR 4 w w.heap.size A l) (hm : RowAt encR 4 w w.heap.size B l) (h1 : l.length ≤ 1000000) :
    Calls Tryd.prog 13 #[.slice A l.length c, .slice B l.length d] w fun e w' => e = .returned (.bool true) ∧ Below w.heap.size w w' := by
  have HL := Lib.hid hl
  have HM := Lib.hid hm
  clear hl hm
  have hne : (((l.length : Int)) != (l.length : Int)) = false := by simp
  go_enter Tryd.func13, Tryd.ntmps13
  go_wp2_with fail
  go_loopw [5] (fun i wr => ∃ k : Nat, k ≤ l.length ∧ i = .int .i64 k ∧ Below w.heap.size w wr) (fun i _ => l.length - (intOf i).toNat)
  case atStart => exact ⟨0, Nat.zero_le _, rfl, by (repeat' (first | with_reducible exact Below.refl _ _ | with_reducible assumption | with_reducible refine Below.drew ?_ | with_reducible refine below_drewN ?_ _ | with_reducible refine Below.setCell ?_ ?_ _ | with_reducible refine Below.alloc ?_ ?_ _ | omega | (simp; done) | (simp; omega)))⟩
  case round =>
    obtain ⟨k, hk, rfl, hw0⟩ := hrel
    have z0 := hw0.size
    by_cases hlt : k < l.length
    · obtain ⟨⟨n1, d1, n2, d2⟩, hx⟩ : ∃ x, l[k]? = some x := ⟨l[k], List.getElem?_eq_getElem hlt⟩
      obtain ⟨g, off, rfl, hg, k0, k1, k2, k3⟩ := cells4 (HL.out.below hw0 (Nat.le_refl _)) hx
      replace k0 : wr.cell? ⟨g, off + k * 4, none⟩ = some (.int .i64 n1) := k0
      replace k1 : wr.cell? ⟨g, off + k * 4 + 1, none⟩ = some (.int .i64 d1) := k1
      replace k2 : wr.cell? ⟨g, off + k * 4 + 2, none⟩ = some (.int .i64 n2) := k2
      replace k3 : wr.cell? ⟨g, off + k * 4 + 3, none⟩ = some (.int .i64 d2) := k3
      obtain ⟨g2, off2, rfl, hg2, j0, j1, j2, j3⟩ := cells4 (HM.out.below hw0 (Nat.le_refl _)) hx
      replace j0 : wr.cell? ⟨g2, off2 + k * 4, none⟩ = some (.int .i64 n1) := j0
      replace j1 : wr.cell? ⟨g2, off2 + k * 4 + 1, none⟩ = some (.int .i64 d1) := j1
      replace j2 : wr.cell? ⟨g2, off2 + k * 4 + 2, none⟩ = some (.int .i64 n2) := j2
      replace j3 : wr.cell? ⟨g2, off2 + k * 4 + 3, none⟩ = some (.int .i64 d2) := j3
      clear hx
      have HB1 : Hid ((n1 == n1 && d1 == d1) = true) := Lib.hid (by simp)
      have HB2 : Hid ((n2 == n2 && d2 == d2) = true) := Lib.hid (by simp)
      have i1 : (k : Int) < (l.length : Int) := by omega
      go_wp2_with fail
      go_region_held3 (fun w' => w'.cell? ⟨g, off + k * 4, none⟩ = some (.int .i64 n1) ∧ w'.cell? ⟨g, off + k * 4 + 1, none⟩ = some (.int .i64 d1) ∧ w'.cell? ⟨g, off + k * 4 + 2, none⟩ = some (.int .i64 n2) ∧ w'.cell? ⟨g, off + k * 4 + 3, none⟩ = some (.int .i64 d2) ∧ w'.cell? ⟨g2, off2 + k * 4, none⟩ = some (.int .i64 n1) ∧ w'.cell? ⟨g2, off2 + k * 4 + 1, none⟩ = some (.int .i64 d1) ∧ w'.cell? ⟨g2, off2 + k * 4 + 2, none⟩ = some (.int .i64 n2) ∧ w'.cell? ⟨g2, off2 + k * 4 + 3, none⟩ = some (.int .i64 d2)) (first | with_reducible exact ⟨k0, k1, k2, k3, j0, j1, j2, j3⟩ | go_keep)
        (first
          | (go_at_call 23; with_reducible refine (sameB_is n1 d1 n1 d1 true _ HB1.out).mono ?_; rintro e w9 ⟨rfl, hb9⟩; have hw9 : Below w.heap.size w w9 := stepH (by (repeat' (first | with_reducible exact Below.refl _ _ | with_reducible assumption | with_reducible refine Below.drew ?_ | with_reducible refine below_drewN ?_ _ | with_reducible refine Below.setCell ?_ ?_ _ | with_reducible refine Below.alloc ?_ ?_ _ | omega | (simp; done) | (simp; omega)))) hb9; have k0 := cellOf hb9 (by first | exact k0 | exact cell_drew k0); have k1 := cellOf hb9 (by first | exact k1 | exact cell_drew k1); have k2 := cellOf hb9 (by first | exact k2 | exact cell_drew k2); have k3 := cellOf hb9 (by first | exact k3 | exact cell_drew k3); have j0 := cellOf hb9 (by first | exact j0 | exact cell_drew j0); have j1 := cellOf hb9 (by first | exact j1 | exact cell_drew j1); have j2 := cellOf hb9 (by first | exact j2 | exact cell_drew j2); have j3 := cellOf hb9 (by first | exact j3 | exact cell_drew j3))
          | (go_at_call 23; refine (sameB_is n2 d2 n2 d2 true _ HB2.out).mono ?_; rintro e w10 ⟨rfl, hb10⟩; have hw10 : Below w.heap.size w w10 := stepH (by (repeat' (first | with_reducible exact Below.refl _ _ | with_reducible assumption | with_reducible refine Below.drew ?_ | with_reducible refine below_drewN ?_ _ | with_reducible refine Below.setCell ?_ ?_ _ | with_reducible refine Below.alloc ?_ ?_ _ | omega | (simp; done) | (simp; omega)))) hb10; have k0 := cellOf hb10 (by exact k0); have k1 := cellOf hb10 (by exact k1); have k2 := cellOf hb10 (by exact k2); have k3 := cellOf hb10 (by exact k3); have j0 := cellOf hb10 (by exact j0); have j1 := cellOf hb10 (by exact j1); have j2 := cellOf hb10 (by exact j2); have j3 := cellOf hb10 (by exact j3)))
      go_wp2_with fail
      go_roundw
      case rel => exact ⟨k + 1, by omega, by go_num, by (repeat' (first | with_reducible exact Below.refl _ _ | with_reducible assumption | with_reducible refine Below.drew ?_ | with_reducible refine below_drewN ?_ _ | with_reducible refine Below.setCell ?_ ?_ _ | with_reducible refine Below.alloc ?_ ?_ _ | omega | (simp; done) | (simp; omega)))⟩
      case measure => simp [intOf]; omega
    · obtain rfl : k = l.length := by omega
      go_wp2_with fail
      go_ret
      exact ⟨rfl, by (repeat' (first | with_reducible exact Below.refl _ _ | with_reducible assumption | with_reducible refine Below.drew ?_ | with_reducible refine below_drewN ?_ _ | with_reducible refine Below.setCell ?_ ?_ _ | with_reducible refine Below.alloc ?_ ?_ _ | omega | (simp; done) | (simp; omega)))⟩

/-- what is written over a bracket -/
def spoilt (b : BI) : BI := (-9, b.2.1, -9, b.2.2.2)
def spoilK (l : List BI) (k : Nat) : List BI := (l.take k).map spoilt ++ l.drop k
theorem spoilK_len (l : List BI) (k : Nat) : (spoilK l k).length = l.length := by
  unfold spoilK; rw [List.length_append, List.length_map, ← List.length_append, List.take_append_drop]
theorem spoilK_at {l : List BI} {k : Nat} {b : BI} (h : l[k]? = some b) : (spoilK l k)[k]? = some b := by
  have hk := (List.getElem?_eq_some_iff.1 h).1
  unfold spoilK
  rw [List.getElem?_append_right (by rw [List.length_map, List.length_take]; omega), List.length_map, List.length_take, List.getElem?_drop, show k + (k - min k l.length) = k by omega, h]
theorem spoilK_set {l : List BI} {k : Nat} {b : BI} (h : l[k]? = some b) : (spoilK l k).set k (spoilt b) = spoilK l (k + 1) := by
  have hk := (List.getElem?_eq_some_iff.1 h).1
  have hb := (List.getElem?_eq_some_iff.1 h).2
  unfold spoilK
  rw [List.set_append_right _ _ (by rw [List.length_map, List.length_take]; omega), List.length_map, List.length_take, show k - min k l.length = 0 by omega, List.drop_eq_getElem_cons hk, hb, List.set_cons_zero, take_snoc h, List.map_append]
  simp
theorem flat_set {α : Type} {enc : α → List Value} {size : Nat} (hs : ∀ x, (enc x).length = size) (l : List α) {k j : Nat} {x y : α} {u : Value} (hk : l[k]? = some x) (hj : j < size) (hu : (enc x).set j u = enc y) : (l.flatMap enc).set (k * size + j) u = (l.set k y).flatMap enc := by
  induction l generalizing k with
  | nil => simp at hk
  | cons z r ih =>
    cases k with
    | zero =>
      simp only [List.getElem?_cons_zero, Option.some.injEq] at hk
      subst hk
      rw [List.set_cons_zero, List.flatMap_cons, List.flatMap_cons, Nat.zero_mul, Nat.zero_add, List.set_append_left _ _ (by rw [hs]; exact hj), hu]
    | succ k =>
      rw [List.getElem?_cons_succ] at hk
      rw [List.set_cons_succ, List.flatMap_cons, List.flatMap_cons, ← ih hk, List.set_append_right _ _ (by rw [hs, Nat.succ_mul]; omega), hs]
      congr 2
      rw [Nat.succ_mul]; omega

theorem own_setS {W : World} {base e size g n cap i : Nat} {xs : List Value} (h : W.ownsRow base e size (.slice (some ⟨g, 0, none⟩) n cap) n xs) (_hi : i < n * size) (u : Value) : (W.setCell ⟨g, i, none⟩ u).ownsRow base e size (.slice (some ⟨g, 0, none⟩) n cap) n (xs.set i u) := by
  obtain ⟨hlen, hc⟩ := h
  rcases hc with ⟨h0, _⟩ | ⟨g', cap', cur, hv, hb, hg, h1, h2, h3, h4⟩
  · cases h0
  cases hv
  refine ⟨by rw [List.length_set]; exact hlen, .inr ⟨g, _, cur.setIfInBounds i u, rfl, hb, ?_, h1, h2, by rw [Array.size_setIfInBounds]; exact h3, ?_⟩⟩
  · simp [World.setCell, Array.getElem?_modify, hg]
  · rw [Array.toList_setIfInBounds, List.take_set, h4]

theorem own_cellsS {α : Type} {enc : α → List Value} {size e base : Nat} {w : World} {v : Value} {l : List α} (hs : ∀ x ∈ l, (enc x).length = size) (hl : l ≠ []) (h : Own enc size e base w v l) : ∃ g c, v = .slice (some ⟨g, 0, none⟩) l.length c ∧ base ≤ g ∧ l.length ≤ c ∧ RowAt enc size w w.heap.size (some ⟨g, 0, none⟩) l ∧ ∀ o, w.frozen? ⟨g, o, none⟩ = false := by
  obtain ⟨A, c, hv, hc, _, hr⟩ := Own.rows hs h
  obtain ⟨hlen, hcc⟩ := h
  rcases hcc with ⟨h0, h1⟩ | ⟨g, cp, cur, hv', hb, hg, _⟩
  · exact absurd (List.eq_nil_of_length_eq_zero h1) hl
  · rw [hv'] at hv
    cases hv
    exact ⟨g, c, hv', hb, hc, hr, fun o => by simp [World.frozen?, hg]⟩

theorem own_cells4 {w : World} {base g n c : Nat} {l : List BI} {k : Nat} {b : BI} (h : Own encR 4 31 base w (.slice (some ⟨g, 0, none⟩) n c) l) (hk : l[k]? = some b) :
    w.cell? ⟨g, k * 4, none⟩ = some (.int .i64 b.1) ∧ w.cell? ⟨g, k * 4 + 1, none⟩ = some (.int .i64 b.2.1) ∧ w.cell? ⟨g, k * 4 + 2, none⟩ = some (.int .i64 b.2.2.1) ∧ w.cell? ⟨g, k * 4 + 3, none⟩ = some (.int .i64 b.2.2.2) ∧ ∀ o, w.frozen? ⟨g, o, none⟩ = false := by
  obtain ⟨g1, c1, e1, _, _, hrow, hfz⟩ := own_cellsS (fun x _ => encR_len x) (fun e => by rw [e] at hk; cases hk) h
  injection e1 with e1
  injection e1 with e1
  injection e1 with e1
  subst e1
  obtain ⟨g2, off2, e2, _, k0, k1, k2, k3⟩ := cells4 hrow hk
  cases e2
  rw [Nat.zero_add] at k0 k1 k2 k3
  exact ⟨k0, k1, k2, k3, hfz⟩

theorem own_put {α : Type} {enc : α → List Value} {size e base g n c : Nat} {w : World} {l : List α} {k j : Nat} {b b' : α} {u : Value} (hs : ∀ x, (enc x).length = size) (h : Own enc size e base w (.slice (some ⟨g, 0, none⟩) n c) l) (hk : l[k]? = some b) (hj : j < size) (hu : (enc b).set j u = enc b') :
    Own enc size e base (w.setCell ⟨g, k * size + j, none⟩ u) (.slice (some ⟨g, 0, none⟩) n c) (l.set k b') := by
  obtain ⟨A, c', e1, _, _, _⟩ := Own.rows (fun x _ => hs x) h
  injection e1 with _ e1 _
  subst e1
  have hlt := (List.getElem?_eq_some_iff.1 hk).1
  have := own_setS h (show k * size + j < l.length * size by
    have : (k + 1) * size ≤ l.length * size := Nat.mul_le_mul_right _ hlt
    rw [Nat.succ_mul] at this; omega) u
  unfold Own
  rw [List.length_set, ← flat_set hs l hk hj hu]
  exact this

set_option maxRecDepth 10000 in
set_option maxHeartbeats 4000000 in
theorem spoil_any (l : List BI) (v : Value) (base : Nat) (w : World) (hown : Own encR 4 31 base w v l) (hm : l.length ≤ 1000000) :
    Calls Tryd.prog 14 #[v] w fun e w' => (e = .returned (.tuple #[]) ∧ Own encR 4 31 base w' v (l.map spoilt)) ∧ OnlyL v.ownBlock.toList w w' := by
  by_cases h0 : l = []
  · subst h0
    obtain ⟨A, c, rfl, _, _, _⟩ := Own.rows (fun x _ => encR_len x) hown
    have HO := Lib.hid hown
    clear hown
    rw [show ([] : List BI).length = 0 from rfl]
    go_enter Tryd.func14, Tryd.ntmps14
    go_wp2_with fail
    go_loopw [2] (fun i wr => i = .int .i64 0 ∧ wr = w) (fun _ _ => 0)
    case atStart => exact ⟨rfl, rfl⟩
    case round =>
      obtain ⟨rfl, rfl⟩ := hrel
      go_wp2_with fail
      go_end0
      exact ⟨⟨rfl, HO.out⟩, OnlyL.refl _ _⟩
  obtain ⟨g, c, rfl, hbg, hlc, _, _⟩ := own_cellsS (fun x _ => encR_len x) h0 hown
  have HN := Lib.hid h0
  have HO := Lib.hid hown
  clear hown h0
  show Calls Tryd.prog 14 #[.slice (some ⟨g, 0, none⟩) l.length c] w fun e w' => (e = .returned (.tuple #[]) ∧ Own encR 4 31 base w' (.slice (some ⟨g, 0, none⟩) l.length c) (l.map spoilt)) ∧ OnlyL [g] w w'
  go_enter Tryd.func14, Tryd.ntmps14
  go_wp2_with fail
  go_loopw [2] (fun i wr => ∃ k : Nat, k ≤ l.length ∧ i = .int .i64 k ∧ Hid (Own encR 4 31 base wr (.slice (some ⟨g, 0, none⟩) l.length c) (spoilK l k)) ∧ Hid (OnlyL [g] w wr)) (fun i _ => l.length - (intOf i).toNat)
  case atStart => exact ⟨0, Nat.zero_le _, rfl, HO, Lib.hid (OnlyL.refl _ _)⟩
  case round =>
    obtain ⟨k, hk, rfl, hown, hol⟩ := hrel
    by_cases hlt : k < l.length
    · obtain ⟨⟨n1, d1, n2, d2⟩, hx⟩ : ∃ x, l[k]? = some x := ⟨l[k], List.getElem?_eq_getElem hlt⟩
      have HX := Lib.hid hx
      obtain ⟨k0, k1, k2, k3, hfz⟩ := own_cells4 hown.out (spoilK_at hx)
      replace k2 : wr.cell? ⟨g, k * 4 + 2, none⟩ = some (.int .i64 n2) := k2
      have i1 : (k : Int) < (l.length : Int) := by omega
      clear hx k0 k1 k3
      go_upto_region 4 with fail
      have hs1 : Hid (Own encR 4 31 base (wr.setCell ⟨g, k * 4 + 2, none⟩ (.int .i64 (-9))) (.slice (some ⟨g, 0, none⟩) l.length c) ((spoilK l k).set k (n1, d1, -9, d2))) := Lib.hid (own_put encR_len hown.out (spoilK_at HX.out) (by decide) rfl)
      have hlk : Hid (((spoilK l k).set k (n1, d1, -9, d2))[k]? = some (n1, d1, -9, d2)) := Lib.hid (by rw [List.getElem?_set_self (by rw [spoilK_len]; exact hlt)])
      have ho1 : Hid (OnlyL [g] w (wr.setCell ⟨g, k * 4 + 2, none⟩ (.int .i64 (-9)))) := Lib.hid (hol.out.setCell (.inl (List.mem_singleton.2 rfl)) _)
      clear hown hol hfz k2
      generalize wr.setCell ⟨g, k * 4 + 2, none⟩ (.int .i64 (-9)) = w5 at *
      obtain ⟨k0, k1, k2, k3, hfz⟩ := own_cells4 hs1.out hlk.out
      replace k0 : w5.cell? ⟨g, k * 4, none⟩ = some (.int .i64 n1) := k0
      clear k1 k2 k3
      go_wp2_with fail
      go_roundw
      case rel =>
        have hs2 := own_put (j := 0) (u := .int .i64 (-9)) (b' := spoilt (n1, d1, n2, d2)) encR_len hs1.out hlk.out (by decide) rfl
        rw [List.set_set, spoilK_set HX.out] at hs2
        exact ⟨k + 1, by omega, by go_num, Lib.hid hs2, Lib.hid (ho1.out.setCell (.inl (List.mem_singleton.2 rfl)) _)⟩
      case measure => simp [intOf]; omega
    · obtain rfl : k = l.length := by omega
      have hs : Hid (Own encR 4 31 base wr (.slice (some ⟨g, 0, none⟩) l.length c) (l.map spoilt)) := by
        have h := hown.out
        unfold spoilK at h
        rw [List.take_length, List.drop_length, List.append_nil] at h
        exact Lib.hid h
      clear hown
      go_wp2_with fail
      go_end0
      exact ⟨⟨rfl, hs.out⟩, hol.out⟩

end Go.Proofs.YtmankldedhgdiaaDoor
