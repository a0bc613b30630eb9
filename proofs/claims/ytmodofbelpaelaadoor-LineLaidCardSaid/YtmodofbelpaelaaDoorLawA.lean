/- LineLaws: same, Map with the law's function: walks (XLineX, XMapA turned). -/
import Derived.Test.YtmodofbelpaelaaDoorLineI
import Derived.Test.YtmodofbelpaelaaDoorLineJ
import Derived.Test.YtmodofbelpaelaaDoorCutF
namespace Go.Proofs.YtmodofbelpaelaaDoor
open Go.RowKit

set_option maxRecDepth 10000 in
set_option maxHeartbeats 4000000 in
theorem sameQ_yes (l : List (Pc Int)) (n : Nat) (A B : Option Addr) (c d : Nat) (w : World) (hn : l.length = n) (hl : RowAt encP 3 w w.heap.size A l) (hm : RowAt encP 3 w w.heap.size B l) (h1 : n ≤ 1000000) :
    Calls Tryd.prog 79 #[.slice A n c, .slice B n d] w fun e w' => e = .returned (.bool true) ∧ Below w.heap.size w w' := by
  have HL := Lib.hid hl
  have HM := Lib.hid hm
  have HN := Lib.hid hn
  clear hl hm hn
  go_enter Tryd.func79, Tryd.ntmps79
  go_wp2_with fail
  go_loopw [5] (fun i wr => ∃ k : Nat, k ≤ n ∧ i = .int .i64 k ∧ Below w.heap.size w wr) (fun i _ => n - (intOf i).toNat)
  case atStart => exact ⟨0, Nat.zero_le _, rfl, Below.refl _ _⟩
  case round =>
    obtain ⟨k, hk, rfl, hb⟩ := hrel
    by_cases hlt : k < n
    · obtain ⟨p, hp⟩ : ∃ p, l[k]? = some p := ⟨l[k]'(by rw [HN.out]; exact hlt), List.getElem?_eq_getElem _⟩
      obtain ⟨g, off, rfl, hg, j0, j1, j2⟩ := cells3 (HL.out.below hb (Nat.le_refl _)) hp
      obtain ⟨g2, off2, rfl, hg2, i0, i1, i2⟩ := cells3 (HM.out.below hb (Nat.le_refl _)) hp
      have hlt2 : (k : Int) < (n : Int) := by omega
      have e0 : (p.f != p.f) = false := bne_self_eq_false _
      have e1 : (p.t != p.t) = false := bne_self_eq_false _
      have e2 : (p.v != p.v) = false := bne_self_eq_false _
      clear hp
      go_wp2_with fail
      go_quiet (fail)
      go_wp2_with fail
      go_roundw
      case rel => exact ⟨k + 1, by omega, by go_num, by (repeat' (first | with_reducible exact Below.refl _ _ | with_reducible assumption | with_reducible refine Below.drew ?_ | with_reducible refine below_drewN ?_ _ | with_reducible refine Below.setCell ?_ ?_ _ | with_reducible refine Below.alloc ?_ ?_ _ | omega | (simp; done) | (simp; omega)))⟩
      case measure => simp [intOf]; omega
    · go_wp2_with fail
      go_ret
      exact ⟨rfl, hb⟩

theorem infoQ6 : (Tryd.prog.info? 86).map (fun i => (i.zero, i.size, i.bytes)) = some (some (.agg #[.int .i64 0, .int .i64 0, .int .i64 0]), 3, 24) := by kernel_rfl

set_option maxRecDepth 10000 in
set_option maxHeartbeats 4000000 in
theorem toldQ_any (r : List (Pc Int)) (A : Option Addr) (c : Nat) (w : World) (hl : RowAt encP 3 w w.heap.size A r) (hm : r.length ≤ 10000) (hA : A = none → c = 0) :
    Calls Tryd.prog 78 #[.agg #[.slice A r.length c]] w fun e w' => (∃ A' c', e = .returned (.slice A' r.length c') ∧ RowAt encP 3 w' w'.heap.size A' r) ∧ Below w.heap.size w w' := by
  obtain ⟨inf0, hi, jz0, jz1, jz2⟩ := info_parts infoQ6
  have HL := Lib.hid hl
  clear hl
  go_enter Tryd.func78, Tryd.ntmps78
  go_wp2_with fail
  refine (pieces6_any r A c _ ((HL.out.below (by (repeat' (first | with_reducible exact Below.refl _ _ | with_reducible assumption | with_reducible refine Below.drew ?_ | with_reducible refine below_drewN ?_ _ | with_reducible refine Below.setCell ?_ ?_ _ | with_reducible refine Below.alloc ?_ ?_ _ | omega | (simp; done) | (simp; omega)))) (Nat.le_refl _)).more (by simp)) (by omega) hA).mono ?_
  rintro e w1 ⟨v, rfl, hown, hb1⟩
  obtain ⟨A5, c5, rfl, hr5, _, hA6⟩ := own_line (fun x _ => encP_len x) hown
  have hw1 : Below w.heap.size w w1 := stepH (by (repeat' (first | with_reducible exact Below.refl _ _ | with_reducible assumption | with_reducible refine Below.drew ?_ | with_reducible refine below_drewN ?_ _ | with_reducible refine Below.setCell ?_ ?_ _ | with_reducible refine Below.alloc ?_ ?_ _ | omega | (simp; done) | (simp; omega)))) hb1
  have z1 := hw1.size
  have HR5 := Lib.hid hr5
  clear hb1 hown hr5
  go_wp2_with fail
  go_loopw [3, 5] (fun v i wr => ∃ k : Nat, k ≤ r.length ∧ i = .int .i64 k ∧ Own encP 3 86 w1.heap.size wr v (r.take k) ∧ Below w1.heap.size w1 wr) (fun _ i _ => r.length - (intOf i).toNat)
  case atStart => exact ⟨0, Nat.zero_le _, rfl, Own.nil, Below.refl _ _⟩
  case round =>
    obtain ⟨k, hk, rfl, hown, hwr⟩ := hrel
    have zr := hwr.size
    have hw0 : Below w.heap.size w wr := stepH hw1 hwr
    have HO := Lib.hid hown
    have hlen : (r.take k).length = k := by rw [List.length_take]; omega
    clear hown
    by_cases hlt : k < r.length
    · obtain ⟨p, hp⟩ : ∃ p, r[k]? = some p := ⟨r[k], List.getElem?_eq_getElem hlt⟩
      have hg2 : ∀ a, A5 = some a → a.block < w1.heap.size := fun a ha => by obtain ⟨_, _, e0, h9, _⟩ := HR5.out k p hp; rw [ha] at e0; cases e0; exact h9
      obtain ⟨g, off, rfl, hg, j0, j1, j2⟩ := cells3 (HR5.out.below hwr (Nat.le_refl _)) hp
      have hg3 : g < w1.heap.size := hg2 _ rfl
      have hlt2 : (k : Int) < (r.length : Int) := by omega
      have HP := Lib.hid hp
      clear hp hg2 hA6
      go_wp2_with fail
      go_region_held_law (fun w' => w'.cell? ⟨g, off + k * 3, none⟩ = some (.int .i64 p.f) ∧ w'.cell? ⟨g, off + k * 3 + 1, none⟩ = some (.int .i64 p.t) ∧ w'.cell? ⟨g, off + k * 3 + 2, none⟩ = some (.int .i64 p.v)) (first | with_reducible exact ⟨j0, j1, j2⟩ | go_keep | exact ⟨(World.grownBy.cell_far hgrow9 ⟨g, off + k * 3, none⟩ (by simp; omega) (fun e => by have h9 := (HO.out.lt _ e.symm).1; dsimp only at h9; omega)).trans (cell_drew (cell_alloc j0)), (World.grownBy.cell_far hgrow9 ⟨g, off + k * 3 + 1, none⟩ (by simp; omega) (fun e => by have h9 := (HO.out.lt _ e.symm).1; dsimp only at h9; omega)).trans (cell_drew (cell_alloc j1)), (World.grownBy.cell_far hgrow9 ⟨g, off + k * 3 + 2, none⟩ (by simp; omega) (fun e => by have h9 := (HO.out.lt _ e.symm).1; dsimp only at h9; omega)).trans (cell_drew (cell_alloc j2))⟩)
        ((refine step_append_any (by rfl) (.tmp 14) (.tmp 33) 71 (by rfl) w1.heap.size 86 inf0 _ 3 24 Tryd.underlying71 hi jz0 jz1 jz2 rfl (by decide) _ (r.take k).length _ (by rfl) ((HO.out.alloc _).drew) (some ⟨wr.heap.size, 0, none⟩) 1 1 [.int .i64 p.f, .int .i64 p.t, .int .i64 p.v] (by rfl) rfl (fun ad ha j u hj => by cases ha; exact cell_drew (World.news_of_block (cs := #[.int .i64 p.f, .int .i64 p.t, .int .i64 p.v]) (blk_new rfl) j u hj)) (fun h => by cases h) (by simp [Value.oneCell']) (by rw [hlen]; unfold maxLen; omega) (by rw [hlen]; omega) (by simp; omega) ?_; intro v' w9 hown9 hgrow9))
      go_wp2_with fail
      go_roundw
      case rel =>
        refine ⟨k + 1, by omega, by go_num, ?_, Below.grown (by (repeat' (first | with_reducible exact Below.refl _ _ | with_reducible assumption | with_reducible refine Below.drew ?_ | with_reducible refine below_drewN ?_ _ | with_reducible refine Below.setCell ?_ ?_ _ | with_reducible refine Below.alloc ?_ ?_ _ | omega | (simp; done) | (simp; omega)))) hgrow9 (by simp; omega) (fun g hg => (HO.out.lt g hg).1)⟩
        rw [take_snoc HP.out]
        exact Own.snoc hown9 rfl (by simp [encP])
      case measure => simp [intOf]; omega
    · obtain rfl : k = r.length := by omega
      have HK : Hid (Own encP 3 86 w1.heap.size wr u3 r) := by have h := HO.out; rw [List.take_length] at h; exact h
      obtain ⟨A2, c2, rfl, hr2, _, _⟩ := own_line (fun x _ => encP_len x) HK.out
      go_wp2_with fail
      go_ret
      exact ⟨⟨A2, c2, rfl, hr2⟩, hw0⟩

/-- each piece's value mapped -/
def mapP {α β : Type} (f : α → β) (l : List (Pc α)) : List (Pc β) := l.map (fun p => ⟨p.f, p.t, f p.v⟩)
theorem mapP_len {α β : Type} (f : α → β) (l : List (Pc α)) : (mapP f l).length = l.length := List.length_map ..
theorem mapP_snoc {α β : Type} {f : α → β} {l : List (Pc α)} {k : Nat} {p : Pc α} (hp : l[k]? = some p) : mapP f (l.take (k + 1)) = mapP f (l.take k) ++ [⟨p.f, p.t, f p.v⟩] := by
  unfold mapP
  rw [take_snoc hp, List.map_append]; rfl
theorem mapP_rise {α β : Type} {f : α → β} {b : Int} {l : List (Pc α)} (h : Rise b l) : Rise b (mapP f l) := by
  induction l generalizing b with
  | nil => trivial
  | cons p r ih => exact ⟨h.1, h.2.1, ih h.2.2⟩
theorem mapP_upTo {α β : Type} {f : α → β} {M : Int} {l : List (Pc α)} (h : UpTo M l) : UpTo M (mapP f l) := fun p hp => by
  obtain ⟨q, hq, rfl⟩ := List.mem_map.1 hp
  exact h q hq
theorem mapP_val {α β : Type} {f : α → β} {n : Int} {l : List (Pc α)} : valL (mapP f l) n = (valL l n).map f := by
  induction l with
  | nil => rfl
  | cons p r ih =>
    show valL (⟨p.f, p.t, f p.v⟩ :: mapP f r) n = _
    rw [valL, valL, ih]
    dsimp only
    split <;> rfl

theorem make6_some (l : List (Pc Int)) (A : Option Addr) (c : Nat) (E : Nat → Addr) (w : World) (hl : RowAt encP 3 w w.heap.size A l) (h1 : l.length ≤ 210) (hE : Env L6 E w) :
    Calls Tryd.prog 27 #[.slice A l.length c] w fun e w' => (∃ A' k c' x, e = .returned (.tuple #[.agg #[.slice A' k c'], x])) ∧ Below w.heap.size w w' := by
  by_cases hv : ∀ p ∈ l, ValidP MD p
  · refine (make6_ok l A c w hl h1 hv).mono ?_
    rintro e w' ⟨⟨A', c', r, rfl, _⟩, hb⟩
    exact ⟨⟨_, _, _, _, rfl⟩, hb⟩
  · refine (make6_bad l A c E w hl (by omega) (Classical.byContradiction fun h => hv fun p hp => Classical.byContradiction fun hn => h ⟨p, hp, hn⟩) hE).mono ?_
    rintro e w' ⟨rfl, hb⟩
    exact ⟨⟨_, _, _, _, rfl⟩, hb⟩
theorem makeU_some (l : List (Pc Unit)) (A : Option Addr) (c : Nat) (E : Nat → Addr) (w : World) (hl : RowAt encU 2 w w.heap.size A l) (h1 : l.length ≤ 1000000) (hE : Env L6 E w) :
    Calls Tryd.prog 29 #[.slice A l.length c] w fun e w' => (∃ A' k c' x, e = .returned (.tuple #[.agg #[.slice A' k c'], x])) ∧ Below w.heap.size w w' := by
  by_cases hv : ∀ p ∈ l, ValidS MD p
  · refine (makeS_ok l A c w hl h1 hv).mono ?_
    rintro e w' ⟨⟨A', c', r, rfl, _⟩, hb⟩
    exact ⟨⟨_, _, _, _, rfl⟩, hb⟩
  · refine (makeS_bad l A c E w hl h1 (Classical.byContradiction fun h => hv fun p hp => Classical.byContradiction fun hn => h ⟨p, hp, hn⟩) hE).mono ?_
    rintro e w' ⟨rfl, hb⟩
    exact ⟨⟨_, _, _, _, rfl⟩, hb⟩

/- The plain law. -/
theorem over_assoc (x y z : Option Int) : overF (overF x y) z = overF x (overF y z) := by cases x <;> rfl
theorem over_self (x : Option Int) : overF x x = x := by cases x <;> rfl
theorem over_none (x : Option Int) : overF x none = x := by cases x <;> rfl
theorem cut_over (x y : Option Int) (d : Option Unit) : cutF (overF x y) d = overF (cutF x d) (cutF y d) := by cases d <;> cases x <;> rfl
theorem map_over (f : Int → Int) (x y : Option Int) : (overF x y).map f = overF (x.map f) (y.map f) := by cases x <;> rfl
theorem over_app {l k : List (Pc Int)} {n : Int} : overF (valL l n) (valL k n) = valL (l ++ k) n := by rw [valL_append]; cases valL l n <;> rfl
theorem over_len {ra rb r l k : List (Pc Int)} (ha : ∀ n, valL ra n = valL l n) (hb : ∀ n, valL rb n = valL k n) (hc : Canon MD r) (hv : ∀ n, valL r n = overF (valL ra n) (valL rb n)) : r.length ≤ 2 * (l.length + k.length) := by
  have := canon_len (L := l ++ k) hc (fun n => by rw [hv, ha, hb, over_app])
  rwa [List.length_append] at this
theorem over_val {ra rb r l k : List (Pc Int)} (ha : ∀ n, valL ra n = valL l n) (hb : ∀ n, valL rb n = valL k n) (hv : ∀ n, valL r n = overF (valL ra n) (valL rb n)) (n : Int) : valL r n = valL (l ++ k) n := by rw [hv, ha, hb, over_app]
theorem val_mem {α : Type} {l : List (Pc α)} {n : Int} {v : α} {b : Int} (h : Rise b l) (hv : valL l n = some v) : ∃ p ∈ l, p.f ≤ n ∧ n < p.t ∧ p.v = v := by
  obtain ⟨p, hp, h1, h2⟩ := valL_some.1 (by rw [hv]; rfl)
  have := h.at hp h1 h2
  rw [hv] at this
  exact ⟨p, hp, h1, h2, (Option.some.inj this).symm⟩
theorem cut_len {r ra : List (Pc Int)} {rd : List (Pc Unit)} {b b' : Int} (hr : Canon MD r) (ha : Rise b ra) (hd : Rise b' rd) (hv : ∀ n, valL r n = cutF (valL ra n) (valL rd n)) : r.length ≤ ra.length + rd.length := by
  have hS : ∀ x ∈ r.map Pc.f, x ∈ ra.map Pc.f ++ rd.map Pc.f := fun x hx => by
    obtain ⟨p, hp, rfl⟩ := List.mem_map.1 hx
    refine Classical.byContradiction fun hno => ?_
    rw [List.mem_append] at hno
    have h1 := hr.rise.at hp (Int.le_refl _) (hr.rise.mem hp).2
    refine apart_start hr.rise hr.apart hp ?_
    rw [hv] at h1 ⊢
    cases hd1 : valL rd p.f with
    | none => rw [hd1] at h1; cases h1
    | some u =>
      rw [hd1] at h1
      have h2 : valL ra p.f = some p.v := h1
      obtain ⟨q, hq, q1, q2, q3⟩ := val_mem ha h2
      obtain ⟨s, hs, s1, s2, _⟩ := val_mem hd hd1
      have n1 : q.f ≠ p.f := fun e => hno (.inl (List.mem_map.2 ⟨q, hq, e⟩))
      have n2 : s.f ≠ p.f := fun e => hno (.inr (List.mem_map.2 ⟨s, hs, e⟩))
      rw [ha.at hq (by omega) (by omega), hd.at hs (by omega) (by omega), q3]
      rfl
  have := nodup_le _ _ hr.rise.starts.1 hS
  rw [List.length_map, List.length_append, List.length_map, List.length_map] at this
  exact this
theorem map_canon {f : Int → Int} {r : List (Pc Int)} (h : Canon MD r) : Canon MD (joinedL (mapP f r)) ∧ ∀ n, valL (joinedL (mapP f r)) n = (valL r n).map f :=
  ⟨joinedL_canon (mapP_rise h.rise) (mapP_upTo h.upTo), fun n => by rw [joinedL_val (mapP_rise h.rise), mapP_val]⟩
theorem map_len {f : Int → Int} {r l : List (Pc Int)} (h : Canon MD r) (hv : ∀ n, valL r n = valL l n) : (joinedL (mapP f r)).length ≤ 2 * l.length := by
  have h2 := map_canon (f := f) h
  have := canon_len (L := mapP f l) h2.1 (fun n => by rw [h2.2, hv, mapP_val])
  rwa [mapP_len] at this

end Go.Proofs.YtmodofbelpaelaaDoor
