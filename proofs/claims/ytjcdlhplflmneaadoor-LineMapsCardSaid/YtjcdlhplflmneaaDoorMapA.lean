/- Values mapped: the law's words and halves; Map at whole numbers: walks. -/
import Derived.Test.YtjcdlhplflmneaaDoorMapB
namespace Go.Proofs.YtjcdlhplflmneaaDoor
open Go.RowKit

/-- a value's last two bits -/
def cd (v : Int) : Fin 4 := ⟨(BitVec.ofInt 64 v).toNat &&& 3, Nat.lt_succ_of_le Nat.and_le_right⟩
theorem cd_eq (v : Int) : bits .and .i64 v 3 = ((cd v).1 : Int) := by
  have hle : (BitVec.ofInt 64 v).toNat &&& 3 ≤ 3 := Nat.and_le_right
  have h3 : (BitVec.ofInt 64 (3 : Int)).toNat = 3 := by decide
  show IntKind.i64.wrap ((BitVec.ofInt 64 v &&& BitVec.ofInt 64 (3 : Int)).toNat : Int) = (((BitVec.ofInt 64 v).toNat &&& 3 : Nat) : Int)
  rw [BitVec.toNat_and, h3, IntKind.wrap_i64]
  omega

theorem word_any (v : Int) (w : World) : Calls Tryd.prog 47 #[.int .i64 v] w fun e w' => e = .returned (.string (wS (cd v))) ∧ w' = w := by
  obtain ⟨⟨m, hm⟩, hc⟩ : ∃ m, cd v = m := ⟨_, rfl⟩
  have hb : bits .and .i64 v 3 = (m : Int) := by rw [cd_eq, hc]
  rw [hc]
  have h1 : wrap64 ((m : Int) + 1) = (m : Int) + 1 := by unfold wrap64; omega
  have h2 : ((m : Int) + 1).toNat = m + 1 := by omega
  have h3 : ((m : Int)).toNat = m := by omega
  have h4 : (0 : Int) ≤ (m : Int) + 1 := by omega
  have h5 : (m : Int) + 1 ≤ 4 := by omega
  have h6 : (m : Int) ≤ (m : Int) + 1 := by omega
  clear hc
  go_enter Tryd.func47, Tryd.ntmps47
  go_wp2_with fail
  go_ret
  exact ⟨rfl, rfl⟩

theorem wordF_any (v : Int) (w : World) : Calls Tryd.prog 46 #[.int .i64 v] w fun e w' => e = .returned (.string (wS (cd v))) ∧ w' = w := by
  go_enter Tryd.func46, Tryd.ntmps46
  go_wp2_with fail
  refine (word_any v _).mono ?_
  rintro e w1 ⟨rfl, rfl⟩
  go_wp2_with fail
  go_ret
  exact ⟨rfl, rfl⟩

theorem half_any (v : Int) (w : World) : Calls Tryd.prog 44 #[.int .i64 v] w fun e w' => e = .returned (.int .i64 (v / 2)) ∧ w' = w := by
  go_enter Tryd.func44, Tryd.ntmps44
  go_wp2_with fail
  go_ret
  exact ⟨rfl, rfl⟩

/-- each piece's value mapped -/
def mapP {α β : Type} (f : α → β) (l : List (Pc α)) : List (Pc β) := l.map (fun p => ⟨p.f, p.t, f p.v⟩)
theorem mapP_len {α β : Type} (f : α → β) (l : List (Pc α)) : (mapP f l).length = l.length := List.length_map ..
theorem mapP_snoc {α β : Type} {f : α → β} {l : List (Pc α)} {k : Nat} {p : Pc α} (hp : l[k]? = some p) : mapP f (l.take (k + 1)) = mapP f (l.take k) ++ [⟨p.f, p.t, f p.v⟩] := by
  unfold mapP
  rw [take_snoc hp, List.map_append]; rfl
theorem mapP_rise {α β : Type} {f : α → β} {b : Int} {l : List (Pc α)} (h : Rise b l) : Rise b (mapP f l) := by
  induction l generalizing b with
  | nil => trivial
  | cons p r ih => exact ⟨h.1, h.2.1, ih h.2.2⟩
theorem mapP_upTo {α β : Type} {f : α → β} {M : Int} {l : List (Pc α)} (h : UpTo M l) : UpTo M (mapP f l) := fun p hp => by
  obtain ⟨q, hq, rfl⟩ := List.mem_map.1 hp
  exact h q hq
theorem mapP_val {α β : Type} {f : α → β} {n : Int} {l : List (Pc α)} : valL (mapP f l) n = (valL l n).map f := by
  induction l with
  | nil => rfl
  | cons p r ih =>
    show valL (⟨p.f, p.t, f p.v⟩ :: mapP f r) n = _
    rw [valL, valL, ih]
    dsimp only
    split <;> rfl

set_option maxRecDepth 10000 in
set_option maxHeartbeats 8000000 in
theorem mapI_any (r : List (Pc Int)) (A : Option Addr) (c : Nat) (w : World) (hl : RowAt encP 3 w w.heap.size A r) (hm : r.length ≤ 1000) :
    Calls Tryd.prog 43 #[.agg #[.slice A r.length c], .func (.func 44) #[] #[]] w fun e w' => (∃ A' c', e = .returned (.agg #[.slice A' (joinedL (mapP (fun v : Int => v / 2) r)).length c']) ∧ RowAt encP 3 w' w'.heap.size A' (joinedL (mapP (fun v : Int => v / 2) r)) ∧ (A' = none → c' = 0)) ∧ Below w.heap.size w w' := by
  obtain ⟨inf0, hi, jz0, jz1, jz2⟩ := info_parts infoPc
  have HL := Lib.hid hl
  clear hl
  go_enter Tryd.func43, Tryd.ntmps43
  go_wp2_with fail
  go_loopw [5, 11] (fun u i wr => ∃ k : Nat, k ≤ r.length ∧ i = .int .i64 k ∧ Own encP 3 87 (w.heap.size + 1 + 1) wr u (mapP (fun v : Int => v / 2) (r.take k)) ∧ Hid (wr.heap[w.heap.size + 1]? = some (.cells #[.slice none 0 0] 61 (0, 0))) ∧ Below w.heap.size w wr) (fun _ i _ => r.length - (intOf i).toNat)
  case atStart => exact ⟨0, Nat.zero_le _, rfl, Own.nil, blk_new (by simp), by (repeat' (first | with_reducible exact Below.refl _ _ | with_reducible assumption | with_reducible refine Below.drew ?_ | with_reducible refine below_drewN ?_ _ | with_reducible refine Below.setCell ?_ ?_ _ | with_reducible refine Below.alloc ?_ ?_ _ | omega | (simp; done) | (simp; omega)))⟩
  case round =>
    obtain ⟨k, hk, rfl, hown, R, hw0⟩ := hrel
    have z0 := hw0.size
    have lR := lt_of_H R
    have HO := Lib.hid hown
    have hlen : (mapP (fun v : Int => v / 2) (r.take k)).length = k := by rw [mapP_len, List.length_take]; omega
    by_cases hlt : k < r.length
    · obtain ⟨p, hp⟩ : ∃ p, r[k]? = some p := ⟨r[k], List.getElem?_eq_getElem hlt⟩
      obtain ⟨g, off, rfl, hg, j0, j1, j2⟩ := cells3 (HL.out.below hw0 (Nat.le_refl _)) hp
      have hlt2 : (k : Int) < (r.length : Int) := by omega
      have HP := Lib.hid hp
      clear hp hown
      go_wp2_with fail
      have PB : Hid ((wr.alloc (.cells #[.int .i64 p.f, .int .i64 p.t, .int .i64 p.v] 87)).heap[wr.heap.size]? = some (.cells #[.int .i64 p.f, .int .i64 p.t, .int .i64 p.v] 87 (0, 0))) := blk_new rfl
      have HO1 := Lib.hid (own_below HO.out (w' := wr.alloc (.cells #[.int .i64 p.f, .int .i64 p.t, .int .i64 p.v] 87)) (by (repeat' (first | with_reducible exact Below.refl _ _ | with_reducible assumption | with_reducible refine Below.drew ?_ | with_reducible refine below_drewN ?_ _ | with_reducible refine Below.setCell ?_ ?_ _ | with_reducible refine Below.alloc ?_ ?_ _ | omega | (simp; done) | (simp; omega)))))
      have R1 := Lib.hid (blk_old (o := .cells #[.int .i64 p.f, .int .i64 p.t, .int .i64 p.v] 87) R.out)
      have hw1 : Below w.heap.size w (wr.alloc (.cells #[.int .i64 p.f, .int .i64 p.t, .int .i64 p.v] 87)) := by (repeat' (first | with_reducible exact Below.refl _ _ | with_reducible assumption | with_reducible refine Below.drew ?_ | with_reducible refine below_drewN ?_ _ | with_reducible refine Below.setCell ?_ ?_ _ | with_reducible refine Below.alloc ?_ ?_ _ | omega | (simp; done) | (simp; omega)))
      have hnb := fun b (h : u5.ownBlock = some b) => (HO.out.lt b h).2
      obtain ⟨pb, hpb⟩ : ∃ pb, wr.heap.size = pb := ⟨_, rfl⟩
      have hz1 : (wr.alloc (.cells #[.int .i64 p.f, .int .i64 p.t, .int .i64 p.v] 87)).heap.size = pb + 1 := by simp [hpb]
      clear HO R hw0 j0 j1 j2
      generalize (wr.alloc (.cells #[.int .i64 p.f, .int .i64 p.t, .int .i64 p.v] 87)) = w1 at *
      rw [hpb] at PB z0 lR hnb ⊢
      have y0 : w1.cell? ⟨pb, 0, none⟩ = some (.int .i64 p.f) := cellH PB 0
      have y1 : w1.cell? ⟨pb, 1, none⟩ = some (.int .i64 p.t) := cellH PB 1
      have y2 : w1.cell? ⟨pb, 2, none⟩ = some (.int .i64 p.v) := cellH PB 2
      clear PB
      go_region_held_law (fun w' => w'.cell? ⟨pb, 0, none⟩ = some (.int .i64 p.f) ∧ w'.cell? ⟨pb, 1, none⟩ = some (.int .i64 p.t) ∧ w'.cell? ⟨pb, 2, none⟩ = some (.int .i64 p.v)) (first | with_reducible exact ⟨y0, y1, y2⟩ | go_keep | exact ⟨(World.grownBy.cell_far hgrow9 ⟨pb, 0, none⟩ (by simp; omega) (fun e => by have h9 := hnb _ e.symm; dsimp only at h9; omega)).trans (cell_drew (cell_alloc y0)), (World.grownBy.cell_far hgrow9 ⟨pb, 1, none⟩ (by simp; omega) (fun e => by have h9 := hnb _ e.symm; dsimp only at h9; omega)).trans (cell_drew (cell_alloc y1)), (World.grownBy.cell_far hgrow9 ⟨pb, 2, none⟩ (by simp; omega) (fun e => by have h9 := hnb _ e.symm; dsimp only at h9; omega)).trans (cell_drew (cell_alloc y2))⟩)
        (first
          | (go_at_call 44; refine (half_any p.v _).mono ?_; rintro e w2 ⟨rfl, rfl⟩)
          | (refine step_append_any (by rfl) (.tmp 15) (.tmp 23) 59 (by rfl) (w.heap.size + 1 + 1) 87 inf0 _ 3 24 Tryd.underlying59 hi jz0 jz1 jz2 rfl (by decide) _ (mapP (fun v : Int => v / 2) (r.take k)).length _ (by rfl) ((HO1.out.alloc _).drew) (some ⟨pb + 1, 0, none⟩) 1 1 [.int .i64 p.f, .int .i64 p.t, .int .i64 (p.v / 2)] (by rfl) rfl (fun ad ha j u hj => by cases ha; exact cell_drew (World.news_of_block (cs := #[.int .i64 p.f, .int .i64 p.t, .int .i64 (p.v / 2)]) (blk_new hz1) j u hj)) (fun h => by cases h) (by simp [Value.oneCell']) (by rw [hlen]; unfold maxLen; omega) (by rw [hlen]; omega) (by simp; omega) ?_; intro v' w9 hown9 hgrow9))
      go_wp2_with fail
      go_roundw
      case rel =>
        refine ⟨k + 1, by omega, by go_num, ?_, ?_, Below.grown (by (repeat' (first | with_reducible exact Below.refl _ _ | with_reducible assumption | with_reducible refine Below.drew ?_ | with_reducible refine below_drewN ?_ _ | with_reducible refine Below.setCell ?_ ?_ _ | with_reducible refine Below.alloc ?_ ?_ _ | omega | (simp; done) | (simp; omega)))) hgrow9 (by simp; omega) (fun g hg => by have := (HO1.out.lt g hg).1; omega)⟩
        · rw [mapP_snoc HP.out]
          exact Own.snoc hown9 rfl (by simp [encP])
        · exact (hgrow9.block _ (by simp; omega) (fun e => by have := (HO1.out.lt _ e.symm).1; omega)).trans (by first | exact drew_old (blk_old R1.out) | exact blk_old (drew_old R1.out))
      case measure => simp [intOf]; omega
    · obtain rfl : k = r.length := by omega
      obtain ⟨A2, c2, rfl, hr2, _, _⟩ := own_line (fun x _ => encP_len x) HO.out
      have HR2 := Lib.hid hr2
      rw [List.take_length] at HR2 ⊢
      clear hr2 hown HO hlen
      go_wp2_with fail
      refine (joined6_any (mapP (fun v : Int => v / 2) r) A2 c2 wr HR2.out (by rw [mapP_len]; omega)).mono ?_
      rintro e w9 ⟨⟨A3, c3, rfl, hr3, hA3, hA4⟩, hb9⟩
      have R3 := keepH hb9 R.out
      have hw9 : Below w.heap.size w w9 := stepH hw0 hb9
      have cR := cellH R3
      have fzR := frozH R3
      have HR3 := Lib.hid hr3
      clear hb9 hr3
      go_wp2_with fail
      refine bodyPost_ret (v := .agg #[.slice A3 (joinedL (mapP (fun v : Int => v / 2) r)).length c3]) (by simp [results, Tryd.results43, go_sem, cR]) rfl ⟨⟨A3, c3, rfl, ?_, hA3⟩, by (repeat' (first | with_reducible exact Below.refl _ _ | with_reducible assumption | with_reducible refine Below.drew ?_ | with_reducible refine below_drewN ?_ _ | with_reducible refine Below.setCell ?_ ?_ _ | with_reducible refine Below.alloc ?_ ?_ _ | omega | (simp; done) | (simp; omega)))⟩
      exact rowKeepL HR3.out (by simp) (fun a ha => Below.heap_setCell _ _ _ _ (by have := hA4 a ha; dsimp only; omega))

end Go.Proofs.YtjcdlhplflmneaaDoor
