/- Values mapped to words; pieces that touch with one word: walks. -/
import Derived.Test.YtjcdlhplflmneaaDoorMapA
import Derived.Test.YtjcdlhplflmneaaDoorNormE
namespace Go.Proofs.YtjcdlhplflmneaaDoor
open Go.RowKit

set_option maxRecDepth 10000 in
set_option maxHeartbeats 8000000 in
theorem mapW_any (r : List (Pc Int)) (A : Option Addr) (c : Nat) (w : World) (hl : RowAt encP 3 w w.heap.size A r) (hm : r.length ≤ 1000) :
    Calls Tryd.prog 45 #[.agg #[.slice A r.length c], .func (.func 46) #[] #[]] w fun e w' => (∃ A' c', e = .returned (.agg #[.slice A' (joinedL (mapP cd r)).length c']) ∧ RowAt encW 3 w' w'.heap.size A' (joinedL (mapP cd r)) ∧ (A' = none → c' = 0)) ∧ Below w.heap.size w w' := by
  obtain ⟨inf0, hi, jz0, jz1, jz2⟩ := info_parts infoW
  have HL := Lib.hid hl
  clear hl
  go_enter Tryd.func45, Tryd.ntmps45
  go_wp2_with fail
  go_loopw [5, 11] (fun u i wr => ∃ k : Nat, k ≤ r.length ∧ i = .int .i64 k ∧ Own encW 3 100 (w.heap.size + 1 + 1) wr u (mapP cd (r.take k)) ∧ Hid (wr.heap[w.heap.size + 1]? = some (.cells #[.slice none 0 0] 94 (0, 0))) ∧ Below w.heap.size w wr) (fun _ i _ => r.length - (intOf i).toNat)
  case atStart => exact ⟨0, Nat.zero_le _, rfl, Own.nil, blk_new (by simp), by (repeat' (first | with_reducible exact Below.refl _ _ | with_reducible assumption | with_reducible refine Below.drew ?_ | with_reducible refine below_drewN ?_ _ | with_reducible refine Below.setCell ?_ ?_ _ | with_reducible refine Below.alloc ?_ ?_ _ | omega | (simp; done) | (simp; omega)))⟩
  case round =>
    obtain ⟨k, hk, rfl, hown, R, hw0⟩ := hrel
    have z0 := hw0.size
    have lR := lt_of_H R
    have HO := Lib.hid hown
    have hlen : (mapP cd (r.take k)).length = k := by rw [mapP_len, List.length_take]; omega
    by_cases hlt : k < r.length
    · obtain ⟨p, hp⟩ : ∃ p, r[k]? = some p := ⟨r[k], List.getElem?_eq_getElem hlt⟩
      obtain ⟨g, off, rfl, hg, j0, j1, j2⟩ := cells3 (HL.out.below hw0 (Nat.le_refl _)) hp
      have hlt2 : (k : Int) < (r.length : Int) := by omega
      have HP := Lib.hid hp
      clear hp hown
      go_wp2_with fail
      have PB : Hid ((wr.alloc (.cells #[.int .i64 p.f, .int .i64 p.t, .int .i64 p.v] 87)).heap[wr.heap.size]? = some (.cells #[.int .i64 p.f, .int .i64 p.t, .int .i64 p.v] 87 (0, 0))) := blk_new rfl
      have HO1 := Lib.hid (own_below HO.out (w' := wr.alloc (.cells #[.int .i64 p.f, .int .i64 p.t, .int .i64 p.v] 87)) (by (repeat' (first | with_reducible exact Below.refl _ _ | with_reducible assumption | with_reducible refine Below.drew ?_ | with_reducible refine below_drewN ?_ _ | with_reducible refine Below.setCell ?_ ?_ _ | with_reducible refine Below.alloc ?_ ?_ _ | omega | (simp; done) | (simp; omega)))))
      have R1 := Lib.hid (blk_old (o := .cells #[.int .i64 p.f, .int .i64 p.t, .int .i64 p.v] 87) R.out)
      have hw1 : Below w.heap.size w (wr.alloc (.cells #[.int .i64 p.f, .int .i64 p.t, .int .i64 p.v] 87)) := by (repeat' (first | with_reducible exact Below.refl _ _ | with_reducible assumption | with_reducible refine Below.drew ?_ | with_reducible refine below_drewN ?_ _ | with_reducible refine Below.setCell ?_ ?_ _ | with_reducible refine Below.alloc ?_ ?_ _ | omega | (simp; done) | (simp; omega)))
      have hnb := fun b (h : u5.ownBlock = some b) => (HO.out.lt b h).2
      obtain ⟨pb, hpb⟩ : ∃ pb, wr.heap.size = pb := ⟨_, rfl⟩
      have hz1 : (wr.alloc (.cells #[.int .i64 p.f, .int .i64 p.t, .int .i64 p.v] 87)).heap.size = pb + 1 := by simp [hpb]
      clear HO R hw0 j0 j1 j2
      generalize (wr.alloc (.cells #[.int .i64 p.f, .int .i64 p.t, .int .i64 p.v] 87)) = w1 at *
      rw [hpb] at PB z0 lR hnb ⊢
      have y0 : w1.cell? ⟨pb, 0, none⟩ = some (.int .i64 p.f) := cellH PB 0
      have y1 : w1.cell? ⟨pb, 1, none⟩ = some (.int .i64 p.t) := cellH PB 1
      have y2 : w1.cell? ⟨pb, 2, none⟩ = some (.int .i64 p.v) := cellH PB 2
      clear PB
      go_region_held_law (fun w' => w'.cell? ⟨pb, 0, none⟩ = some (.int .i64 p.f) ∧ w'.cell? ⟨pb, 1, none⟩ = some (.int .i64 p.t) ∧ w'.cell? ⟨pb, 2, none⟩ = some (.int .i64 p.v)) (first | with_reducible exact ⟨y0, y1, y2⟩ | go_keep | exact ⟨(World.grownBy.cell_far hgrow9 ⟨pb, 0, none⟩ (by simp; omega) (fun e => by have h9 := hnb _ e.symm; dsimp only at h9; omega)).trans (cell_drew (cell_alloc y0)), (World.grownBy.cell_far hgrow9 ⟨pb, 1, none⟩ (by simp; omega) (fun e => by have h9 := hnb _ e.symm; dsimp only at h9; omega)).trans (cell_drew (cell_alloc y1)), (World.grownBy.cell_far hgrow9 ⟨pb, 2, none⟩ (by simp; omega) (fun e => by have h9 := hnb _ e.symm; dsimp only at h9; omega)).trans (cell_drew (cell_alloc y2))⟩)
        (first
          | (go_at_call 46; refine (wordF_any p.v _).mono ?_; rintro e w2 ⟨rfl, rfl⟩)
          | (refine step_append_any (by rfl) (.tmp 15) (.tmp 23) 92 (by rfl) (w.heap.size + 1 + 1) 100 inf0 _ 3 32 Tryd.underlying92 hi jz0 jz1 jz2 rfl (by decide) _ (mapP cd (r.take k)).length _ (by rfl) ((HO1.out.alloc _).drew) (some ⟨pb + 1, 0, none⟩) 1 1 [.int .i64 p.f, .int .i64 p.t, .string (wS (cd p.v))] (by rfl) rfl (fun ad ha j u hj => by cases ha; exact cell_drew (World.news_of_block (cs := #[.int .i64 p.f, .int .i64 p.t, .string (wS (cd p.v))]) (blk_new hz1) j u hj)) (fun h => by cases h) (by simp [Value.oneCell']) (by rw [hlen]; unfold maxLen; omega) (by rw [hlen]; omega) (by simp; omega) ?_; intro v' w9 hown9 hgrow9))
      go_wp2_with fail
      go_roundw
      case rel =>
        refine ⟨k + 1, by omega, by go_num, ?_, ?_, Below.grown (by (repeat' (first | with_reducible exact Below.refl _ _ | with_reducible assumption | with_reducible refine Below.drew ?_ | with_reducible refine below_drewN ?_ _ | with_reducible refine Below.setCell ?_ ?_ _ | with_reducible refine Below.alloc ?_ ?_ _ | omega | (simp; done) | (simp; omega)))) hgrow9 (by simp; omega) (fun g hg => by have := (HO1.out.lt g hg).1; omega)⟩
        · rw [mapP_snoc HP.out]
          exact Own.snoc hown9 rfl (by simp [encW])
        · exact (hgrow9.block _ (by simp; omega) (fun e => by have := (HO1.out.lt _ e.symm).1; omega)).trans (by first | exact drew_old (blk_old R1.out) | exact blk_old (drew_old R1.out))
      case measure => simp [intOf]; omega
    · obtain rfl : k = r.length := by omega
      obtain ⟨A2, c2, rfl, hr2, _, _⟩ := own_line (fun x _ => encW_len x) HO.out
      have HR2 := Lib.hid hr2
      rw [List.take_length] at HR2 ⊢
      clear hr2 hown HO hlen
      go_wp2_with fail
      refine (joinedW_any (mapP cd r) A2 c2 wr HR2.out (by rw [mapP_len]; omega)).mono ?_
      rintro e w9 ⟨⟨A3, c3, rfl, hr3, hA3, hA4⟩, hb9⟩
      have R3 := keepH hb9 R.out
      have hw9 : Below w.heap.size w w9 := stepH hw0 hb9
      have cR := cellH R3
      have fzR := frozH R3
      have HR3 := Lib.hid hr3
      clear hb9 hr3
      go_wp2_with fail
      refine bodyPost_ret (v := .agg #[.slice A3 (joinedL (mapP cd r)).length c3]) (by simp [results, Tryd.results45, go_sem, cR]) rfl ⟨⟨A3, c3, rfl, ?_, hA3⟩, by (repeat' (first | with_reducible exact Below.refl _ _ | with_reducible assumption | with_reducible refine Below.drew ?_ | with_reducible refine below_drewN ?_ _ | with_reducible refine Below.setCell ?_ ?_ _ | with_reducible refine Below.alloc ?_ ?_ _ | omega | (simp; done) | (simp; omega)))⟩
      exact rowKeepL HR3.out (by simp) (fun a ha => Below.heap_setCell _ _ _ _ (by have := hA4 a ha; dsimp only; omega))

/-- no two pieces that touch have one word -/
def NoGone (l : List (Pc Int)) : Prop := ∀ (j : Nat) (q p : Pc Int), l[j]? = some q → l[j + 1]? = some p → ¬ (q.t = p.f ∧ cd q.v = cd p.v)

/-- the answer of gone -/
def GoneAns (l : List (Pc Int)) (e : Ending) : Prop := ∃ b, e = .returned (.bool b) ∧ (b = false → NoGone l)

theorem joined_same {l : List (Pc (Fin 4))} (h : ∀ (j : Nat) (q p : Pc (Fin 4)), l[j]? = some q → l[j + 1]? = some p → ¬ (q.t = p.f ∧ q.v = p.v)) : joinedL l = l := by
  cases l with
  | nil => rfl
  | cons q r =>
    show jc q r = q :: r
    induction r generalizing q with
    | nil => rfl
    | cons p s ih => rw [jc_keep (h 0 q p rfl rfl), ih p (fun j a b ha hb => h (j + 1) a b (by simpa using ha) (by simpa using hb))]
theorem noGone_len {l : List (Pc Int)} (h : NoGone l) : (joinedL (mapP cd l)).length = l.length := by
  rw [joined_same (fun j q p hq hp => ?_), mapP_len]
  unfold mapP at hq hp
  rw [List.getElem?_map] at hq hp
  cases h1 : l[j]? with
  | none => rw [h1] at hq; cases hq
  | some a =>
    cases h2 : l[j + 1]? with
    | none => rw [h2] at hp; cases hp
    | some b =>
      rw [h1] at hq; rw [h2] at hp
      cases hq; cases hp
      exact h j a b h1 h2

set_option maxRecDepth 10000 in
set_option maxHeartbeats 8000000 in
theorem gone_any (l : List (Pc Int)) (A : Option Addr) (c : Nat) (w : World) (hl : RowAt encP 3 w w.heap.size A l) (hm : l.length ≤ 1000) :
    Calls Tryd.prog 49 #[.slice A l.length c] w fun e w' => GoneAns l e ∧ Below w.heap.size w w' := by
  have HL := Lib.hid hl
  clear hl
  go_enter Tryd.func49, Tryd.ntmps49
  go_wp2_with fail
  go_loopw [3] (fun i wr => ∃ k : Nat, (k = 0 ∨ k < l.length) ∧ i = .int .i64 ((k : Int) + 1) ∧ Hid (∀ (j : Nat) (q p : Pc Int), j < k → l[j]? = some q → l[j + 1]? = some p → ¬ (q.t = p.f ∧ cd q.v = cd p.v)) ∧ Below w.heap.size w wr) (fun i _ => l.length - (intOf i).toNat)
  case atStart => exact ⟨0, .inl rfl, rfl, Lib.hid (fun j q p h => by omega), Below.refl _ _⟩
  case round =>
    obtain ⟨k, hk, rfl, HK, hw0⟩ := hrel
    have z0 := hw0.size
    by_cases hlt : k + 1 < l.length
    · obtain ⟨q, hq⟩ : ∃ q, l[k]? = some q := ⟨l[k]'(by omega), List.getElem?_eq_getElem _⟩
      obtain ⟨p, hp⟩ : ∃ p, l[k + 1]? = some p := ⟨l[k + 1]'(by omega), List.getElem?_eq_getElem _⟩
      obtain ⟨g, off, rfl, hg, j0, j1, j2⟩ := cells3 (HL.out.below hw0 (Nat.le_refl _)) hp
      obtain ⟨_, _, eA, _, m0, m1, m2⟩ := cells3 (HL.out.below hw0 (Nat.le_refl _)) hq
      cases eA
      have hlt2 : (k : Int) + 1 < (l.length : Int) := by omega
      have f1 : (k : Int) + 1 - 1 = (k : Int) := by omega
      have f2 : IntKind.i64.wrap (k : Int) = (k : Int) := by rw [IntKind.wrap_i64]; omega
      have f3 : IntKind.i64.wrap ((k : Int) + 1 - 1) = (k : Int) := by rw [IntKind.wrap_i64]; omega
      have f4 : (k : Int) < (l.length : Int) := by omega
      have f5 : ((k : Int)).toNat = k := by omega
      have f6 : ((k : Int) + 1).toNat = k + 1 := by omega
      have f7 : (0 : Int) ≤ (k : Int) + 1 := by omega
      obtain ⟨n1, hn1⟩ : ∃ n1, bits .and .i64 q.v 3 = n1 := ⟨_, rfl⟩
      obtain ⟨n2, hn2⟩ : ∃ n2, bits .and .i64 p.v 3 = n2 := ⟨_, rfl⟩
      have hcd : (n1 == n2) = decide (cd q.v = cd p.v) := by
        rw [← hn1, ← hn2, cd_eq, cd_eq, Bool.eq_iff_iff]
        simp only [beq_iff_eq, decide_eq_true_eq]
        constructor
        · intro h; exact Fin.ext (by omega)
        · intro h; rw [h]
      have HQ := Lib.hid hq
      have HP := Lib.hid hp
      have HCD := Lib.hid hcd
      have hK2 : ¬ (q.t = p.f ∧ cd q.v = cd p.v) → Hid (∀ (j : Nat) (q p : Pc Int), j < k + 1 → l[j]? = some q → l[j + 1]? = some p → ¬ (q.t = p.f ∧ cd q.v = cd p.v)) := fun hno j a b hj ha hb => by
        rcases Nat.lt_or_ge j k with h | h
        · exact HK.out j a b h ha hb
        · obtain rfl : j = k := by omega
          rw [HQ.out] at ha; rw [HP.out] at hb; cases ha; cases hb; exact hno
      have HK2 := Lib.hid hK2
      clear hq hp hcd hK2
      by_cases ht : q.t = p.f
      · have e1 : (q.t == p.f) = true := by simp [ht]
        by_cases hc : cd q.v = cd p.v
        · have e2 : (n1 == n2) = true := by rw [HCD.out]; exact decide_eq_true hc
          clear ht hc
          go_wp2_with fail
          go_quiet (fail)
          go_wp2_with fail
          go_ret
          exact ⟨⟨true, rfl, fun h => by cases h⟩, by (repeat' (first | with_reducible exact Below.refl _ _ | with_reducible assumption | with_reducible refine Below.drew ?_ | with_reducible refine below_drewN ?_ _ | with_reducible refine Below.setCell ?_ ?_ _ | with_reducible refine Below.alloc ?_ ?_ _ | omega | (simp; done) | (simp; omega)))⟩
        · have e2 : (n1 == n2) = false := by rw [HCD.out]; exact decide_eq_false hc
          have HK3 := Lib.hid (HK2.out (fun h => hc h.2))
          clear ht hc
          go_wp2_with fail
          go_quiet (fail)
          go_wp2_with fail
          go_roundw
          case rel => exact ⟨k + 1, .inr hlt, by go_num, HK3.out, by (repeat' (first | with_reducible exact Below.refl _ _ | with_reducible assumption | with_reducible refine Below.drew ?_ | with_reducible refine below_drewN ?_ _ | with_reducible refine Below.setCell ?_ ?_ _ | with_reducible refine Below.alloc ?_ ?_ _ | omega | (simp; done) | (simp; omega)))⟩
          case measure => simp [intOf]; omega
      · have e1 : (q.t == p.f) = false := by simp [ht]
        have HK3 := Lib.hid (HK2.out (fun h => ht h.1))
        clear ht
        go_wp2_with fail
        go_quiet (fail)
        go_wp2_with fail
        go_roundw
        case rel => exact ⟨k + 1, .inr hlt, by go_num, HK3.out, by (repeat' (first | with_reducible exact Below.refl _ _ | with_reducible assumption | with_reducible refine Below.drew ?_ | with_reducible refine below_drewN ?_ _ | with_reducible refine Below.setCell ?_ ?_ _ | with_reducible refine Below.alloc ?_ ?_ _ | omega | (simp; done) | (simp; omega)))⟩
        case measure => simp [intOf]; omega
    · have hlt2 : ¬ ((k : Int) + 1 < (l.length : Int)) := by omega
      have HN : Hid (NoGone l) := fun j q p hq hp => HK.out j q p (by have := (List.getElem?_eq_some_iff.1 hp).1; omega) hq hp
      go_wp2_with fail
      go_ret
      exact ⟨⟨false, rfl, fun _ => HN.out⟩, hw0⟩

theorem mapped_made (f : Int → Int) {x : List (Pc Int)} (h : Canon MD x) : Made MD (mapP f x) (joinedL (mapP f x)) :=
  ⟨joinedL_canon (mapP_rise h.rise) (mapP_upTo h.upTo), fun n => by rw [joinedL_val (mapP_rise h.rise), (mapP_rise h.rise).rev]⟩
theorem mapped_valid (f : Int → Int) {x : List (Pc Int)} (h : Canon MD x) : ∀ p ∈ mapP f x, ValidP MD p := fun p hp => by
  obtain ⟨q, hq, rfl⟩ := List.mem_map.1 hp
  exact ⟨(h.rise.mem hq).1, (h.rise.mem hq).2, h.upTo q hq⟩
/-- a day at which a piece of words begins has a value of that word -/
theorem word_at {x : List (Pc Int)} (h : Canon MD x) : ∀ z ∈ joinedL (mapP cd x), ∃ v, valL x z.f = some v ∧ cd v = z.v := fun z hz => by
  have hc := joinedL_canon (mapP_rise (f := cd) h.rise) (mapP_upTo h.upTo)
  have h1 := hc.rise.at hz (Int.le_refl _) (hc.rise.mem hz).2
  rw [joinedL_val (mapP_rise h.rise), mapP_val] at h1
  cases hx : valL x z.f with
  | none => rw [hx] at h1; cases h1
  | some v => rw [hx] at h1; injection h1 with h1; exact ⟨v, rfl, h1⟩

end Go.Proofs.YtjcdlhplflmneaaDoor
