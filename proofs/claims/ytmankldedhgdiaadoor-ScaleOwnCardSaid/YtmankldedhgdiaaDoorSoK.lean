/- The document's Froms of two scales: walk. -/
import Derived.Test.YtmankldedhgdiaaDoorSoG
namespace Go.Proofs.YtmankldedhgdiaaDoor
open Go.RowKit

/-- what was merged so far: all Froms of s ahead of i, of t ahead of j; all that come are above -/
structure FrI (s t : List (Rat × Rat)) (i j : Nat) (o : List Rat) : Prop where
  rise : o.Pairwise (· < ·)
  mem : ∀ x, x ∈ o ↔ x ∈ (s.take i).map (·.1) ∨ x ∈ (t.take j).map (·.1)
  lowS : ∀ b, s[i]? = some b → ∀ x ∈ o, x < b.1
  lowT : ∀ b, t[j]? = some b → ∀ x ∈ o, x < b.1
theorem FrI.start (s t : List (Rat × Rat)) : FrI s t 0 0 [] := ⟨List.Pairwise.nil, (by simp), (fun _ _ _ h => by cases h), (fun _ _ _ h => by cases h)⟩
theorem ris_next {s : List (Rat × Rat)} (h : Ris s) {i : Nat} {a b : Rat × Rat} (ha : s[i]? = some a) (hb : s[i + 1]? = some b) : a.1 < b.1 := by
  obtain ⟨h1, e1⟩ := List.getElem?_eq_some_iff.1 ha
  obtain ⟨h2, e2⟩ := List.getElem?_eq_some_iff.1 hb
  rw [← e1, ← e2]
  exact List.pairwise_iff_getElem.1 h i (i + 1) h1 h2 (by omega)
theorem low_snoc {o : List Rat} {y z : Rat} (h : ∀ x ∈ o, x < y) (hz : y < z) : ∀ x ∈ o ++ [y], x < z := by
  intro x hx
  rcases List.mem_append.1 hx with h1 | h1
  · have := h x h1; grind
  · rw [List.mem_singleton.1 h1]; exact hz
theorem rise_snoc {o : List Rat} {y : Rat} (h : o.Pairwise (· < ·)) (hy : ∀ x ∈ o, x < y) : (o ++ [y]).Pairwise (· < ·) :=
  List.pairwise_append.2 ⟨h, List.pairwise_singleton .., fun a ha b hb => by rw [List.mem_singleton.1 hb]; exact hy a ha⟩
theorem FrI.left {s t : List (Rat × Rat)} {i j : Nat} {o : List Rat} {a : Rat × Rat} (h : FrI s t i j o) (hs : Ris s) (ha : s[i]? = some a) (hlt : ∀ b, t[j]? = some b → a.1 < b.1) : FrI s t (i + 1) j (o ++ [a.1]) where
  rise := rise_snoc h.rise (h.lowS a ha)
  mem := fun x => by
    rw [take_snoc ha, List.map_append, List.mem_append, List.mem_append, h.mem]
    constructor
    · rintro ((h1 | h1) | h1)
      · exact .inl (.inl h1)
      · exact .inr h1
      · exact .inl (.inr h1)
    · rintro ((h1 | h1) | h1)
      · exact .inl (.inl h1)
      · exact .inr h1
      · exact .inl (.inr h1)
  lowS := fun b hb => low_snoc (h.lowS a ha) (ris_next hs ha hb)
  lowT := fun b hb => low_snoc (h.lowS a ha) (hlt b hb)
theorem FrI.swap {s t : List (Rat × Rat)} {i j : Nat} {o : List Rat} (h : FrI s t i j o) : FrI t s j i o := ⟨h.rise, fun x => (h.mem x).trans Or.comm, h.lowT, h.lowS⟩
theorem FrI.right {s t : List (Rat × Rat)} {i j : Nat} {o : List Rat} {b : Rat × Rat} (h : FrI s t i j o) (ht : Ris t) (hb : t[j]? = some b) (hlt : ∀ a, s[i]? = some a → b.1 < a.1) : FrI s t i (j + 1) (o ++ [b.1]) := (h.swap.left ht hb hlt).swap
theorem FrI.both {s t : List (Rat × Rat)} {i j : Nat} {o : List Rat} {a b : Rat × Rat} (h : FrI s t i j o) (hs : Ris s) (ht : Ris t) (ha : s[i]? = some a) (hb : t[j]? = some b) (e : a.1 = b.1) : FrI s t (i + 1) (j + 1) (o ++ [a.1]) where
  rise := rise_snoc h.rise (h.lowS a ha)
  mem := fun x => by
    rw [take_snoc ha, take_snoc hb, List.map_append, List.map_append, List.mem_append, List.mem_append, List.mem_append, h.mem]
    show _ ∨ x ∈ [a.1] ↔ (_ ∨ x ∈ [a.1]) ∨ (_ ∨ x ∈ [b.1])
    rw [← e]
    constructor
    · rintro ((h1 | h1) | h1)
      · exact .inl (.inl h1)
      · exact .inr (.inl h1)
      · exact .inl (.inr h1)
    · rintro ((h1 | h1) | (h1 | h1))
      · exact .inl (.inl h1)
      · exact .inr h1
      · exact .inl (.inr h1)
      · exact .inr h1
  lowS := fun c hc => low_snoc (h.lowS a ha) (ris_next hs ha hc)
  lowT := fun c hc => low_snoc (h.lowS a ha) (by rw [e]; exact ris_next ht hb hc)
theorem FrI.done {s t : List (Rat × Rat)} {o : List Rat} (h : FrI s t s.length t.length o) : IsF s t o := ⟨h.rise, fun x => by rw [h.mem, List.take_length, List.take_length]⟩
theorem ris_of {gs : List (Rat × Rat)} (h : ∀ (k : Nat) (x y : Rat × Rat), gs[k]? = some x → gs[k + 1]? = some y → x.1 < y.1) : Ris gs := by
  induction gs with
  | nil => exact List.Pairwise.nil
  | cons a l ih =>
    have hl := ih fun k x y hx hy => h (k + 1) x y (by simpa using hx) (by simpa using hy)
    refine List.pairwise_cons.2 ⟨fun b hb => ?_, hl⟩
    cases l with
    | nil => cases hb
    | cons c m =>
      have h0 := h 0 a c rfl rfl
      rcases List.mem_cons.1 hb with rfl | hb
      · exact h0
      · have := (List.pairwise_cons.1 hl).1 b hb; grind

set_option maxRecDepth 100000 in
set_option maxHeartbeats 16000000 in
theorem froms_any (gs ts : List (Rat × Rat)) (A B : Option Addr) (c d : Nat) (w : World) (hl : RowAt encR 4 w w.heap.size A (gs.map bR)) (hr : RowAt encR 4 w w.heap.size B (ts.map bR)) (h1 : gs.length ≤ 1000) (h2 : ts.length ≤ 1000) (hg : ∀ b ∈ gs, GoodB b) (ht : ∀ b ∈ ts, GoodB b) (hs : Ris gs) (hu : Ris ts) :
    Calls Tryd.prog 37 #[.slice A gs.length c, .slice B ts.length d] w fun e w' => (∃ v l, e = .returned v ∧ IsF gs ts l ∧ l.length ≤ gs.length + ts.length ∧ Own encF 2 24 w.heap.size w' v (l.map fq)) ∧ Below w.heap.size w w' := by
  obtain ⟨inf1, hi1, jf0, jf1, jf2⟩ := info_parts infoFrac
  have HL := Lib.hid hl
  have HR := Lib.hid hr
  have HG := Lib.hid hg
  have HT := Lib.hid ht
  have HS := Lib.hid hs
  have HU := Lib.hid hu
  clear hl hr hg ht hs hu
  go_enter Tryd.func37, Tryd.ntmps37
  go_wp2_with fail
  go_loopw [5, 6, 7] (fun v a b wr => ∃ (i j : Nat) (o : List Rat), i ≤ gs.length ∧ j ≤ ts.length ∧ a = .int .i64 i ∧ b = .int .i64 j ∧ o.length ≤ i + j ∧ Hid (FrI gs ts i j o) ∧ Hid (wr.ownsRow w.heap.size 24 2 v o.length ((o.map fq).flatMap encF)) ∧ Below w.heap.size w wr) (fun _ a b _ => gs.length + ts.length - (intOf a).toNat - (intOf b).toNat)
  case atStart => exact ⟨0, 0, [], Nat.zero_le _, Nat.zero_le _, rfl, rfl, Nat.le_refl _, Lib.hid (FrI.start gs ts), World.ownsRow_nil _ _ _ _, Below.refl _ _⟩
  case round =>
    obtain ⟨i, j, o, hi2, hj2, rfl, rfl, hol, hF, HO, hw0⟩ := hrel
    have z0 := hw0.size
    have ob : o.length ≤ 2000 := by omega
    by_cases hj : j < ts.length
    · obtain ⟨b, hb⟩ : ∃ b, ts[j]? = some b := ⟨ts[j]'(by omega), List.getElem?_eq_getElem _⟩
      have Gb := Lib.hid (HT.out b (List.mem_of_getElem? hb))
      obtain ⟨gb, offb, hAb, hgBb, j0, j1, _, _⟩ := cells4 (HR.out.below hw0 (Nat.le_refl _)) (show (ts.map bR)[j]? = some (bR b) by rw [List.getElem?_map, hb]; rfl)
      subst hAb
      replace j0 : wr.cell? ⟨gb, offb + j * 4, none⟩ = some (.int .i64 b.1.num) := j0
      replace j1 : wr.cell? ⟨gb, offb + j * 4 + 1, none⟩ = some (.int .i64 b.1.den) := j1
      have Hb := Lib.hid hb
      clear hb
      by_cases hi : i < gs.length
      · obtain ⟨a, ha⟩ : ∃ b, gs[i]? = some b := ⟨gs[i]'(by omega), List.getElem?_eq_getElem _⟩
        have Ga := Lib.hid (HG.out a (List.mem_of_getElem? ha))
        obtain ⟨ga, offa, hAa, hgBa, k0, k1, _, _⟩ := cells4 (HL.out.below hw0 (Nat.le_refl _)) (show (gs.map bR)[i]? = some (bR a) by rw [List.getElem?_map, ha]; rfl)
        subst hAa
        replace k0 : wr.cell? ⟨ga, offa + i * 4, none⟩ = some (.int .i64 a.1.num) := k0
        replace k1 : wr.cell? ⟨ga, offa + i * 4 + 1, none⟩ = some (.int .i64 a.1.den) := k1
        have Ha := Lib.hid ha
        clear ha
        have q1 : (i : Int) < (gs.length : Int) := by omega
        have q2 : (j : Int) < (ts.length : Int) := by omega
        have q3 : ((j : Int) == (ts.length : Int)) = false := beq_false_of_ne (by omega)
        have q4 : ((i : Int) == (gs.length : Int)) = false := beq_false_of_ne (by omega)
        obtain ⟨cc, hcc⟩ : ∃ cc, cmpQ a.1 b.1 = cc := ⟨_, rfl⟩
        have HC := Lib.hid hcc
        clear hcc
        by_cases hab : a.1 < b.1
        · obtain rfl : cc = -1 := by rw [← HC.out]; exact cmp_lt hab
          have HAB := Lib.hid hab
          clear hab
          go_wp2_with fail
          go_region_held3 (fun w' => w'.cell? ⟨ga, offa + i * 4, none⟩ = some (.int .i64 a.1.num) ∧ w'.cell? ⟨ga, offa + i * 4 + 1, none⟩ = some (.int .i64 a.1.den) ∧ w'.cell? ⟨gb, offb + j * 4, none⟩ = some (.int .i64 b.1.num) ∧ w'.cell? ⟨gb, offb + j * 4 + 1, none⟩ = some (.int .i64 b.1.den)) (first | with_reducible exact ⟨k0, k1, j0, j1⟩ | go_keep)
            (first | (go_at_call 25; refine (refCmp_is a.1 b.1 (-1) _ Ga.out.1 Gb.out.1 HC.out).mono ?_; rintro e w9 ⟨rfl, hb9⟩; have hw9 : Below w.heap.size w w9 := stepH (by (repeat' (first | with_reducible exact Below.refl _ _ | with_reducible assumption | with_reducible refine Below.drew ?_ | with_reducible refine below_drewN ?_ _ | with_reducible refine Below.setCell ?_ ?_ _ | with_reducible refine Below.alloc ?_ ?_ _ | omega | (simp; done) | (simp; omega)))) hb9; have HO := Lib.hid (own_below HO.out (w' := w9) (by first | exact hb9 | exact ⟨hb9.os, hb9.tape, hb9.output, hb9.size, hb9.block⟩)); have zw9 := hw9.size; have k0 := cellOf hb9 (by first | exact k0 | exact cell_drew k0); have k1 := cellOf hb9 (by first | exact k1 | exact cell_drew k1); have j0 := cellOf hb9 (by first | exact j0 | exact cell_drew j0); have j1 := cellOf hb9 (by first | exact j1 | exact cell_drew j1)))
          go_wp2_with (at_builtin; go_must (refine wpList_append_own _ rfl (.tmp 55) (.tmp 61) 39 rfl w.heap.size 24 inf1 _ 2 16 Tryd.underlying39 hi1 jf0 jf1 jf2 rfl (by decide) _ o.length _ rfl (own_below HO.out (by (repeat' (first | with_reducible exact Below.refl _ _ | with_reducible assumption | with_reducible refine Below.drew ?_ | with_reducible refine below_drewN ?_ _ | with_reducible refine Below.setCell ?_ ?_ _ | with_reducible refine Below.alloc ?_ ?_ _ | omega | (simp; done) | (simp; omega))))) ⟨w9.heap.size, 0, none⟩ 1 1 [.int .i64 a.1.num, .int .i64 a.1.den] rfl rfl (World.news_of_block (cs := #[.int .i64 a.1.num, .int .i64 a.1.den]) (blk_new (by simp))) (by simp [Value.oneCell']) (by unfold maxLen; omega) (by omega) (by simp; omega) ?_); intro v' w12 hown9 hgrow9 _)
          go_roundw
          case rel =>
            refine ⟨i + 1, j, o ++ [a.1], by omega, by omega, by go_num, by go_num, by simp; omega, Lib.hid (hF.out.left HS.out Ha.out (fun b' h => by rw [Hb.out] at h; cases h; exact HAB.out)), ?_, ?_⟩
            · show World.ownsRow _ _ _ _ _ _ _
              rw [List.map_append, List.flatMap_append]; simpa [encF, fq] using hown9
            · exact Below.grown (by (repeat' (first | with_reducible exact Below.refl _ _ | with_reducible assumption | with_reducible refine Below.drew ?_ | with_reducible refine below_drewN ?_ _ | with_reducible refine Below.setCell ?_ ?_ _ | with_reducible refine Below.alloc ?_ ?_ _ | omega | (simp; done) | (simp; omega)))) hgrow9 (by simp; omega) (fun g hg => (HO.out.lt g hg).1)
          case measure => simp [intOf]; omega
        · have hc2 : decide (cc < 0) = false := by rw [← HC.out]; exact decide_eq_false (by have := cmp_ge hab; omega)
          obtain ⟨cd, hcd⟩ : ∃ cd, cmpQ b.1 a.1 = cd := ⟨_, rfl⟩
          have HC2 := Lib.hid hcd
          clear hcd
          by_cases hba : b.1 < a.1
          · obtain rfl : cd = -1 := by rw [← HC2.out]; exact cmp_lt hba
            have HBA := Lib.hid hba
            clear hab hba
            go_wp2_with fail
            go_region_held3 (fun w' => w'.cell? ⟨ga, offa + i * 4, none⟩ = some (.int .i64 a.1.num) ∧ w'.cell? ⟨ga, offa + i * 4 + 1, none⟩ = some (.int .i64 a.1.den) ∧ w'.cell? ⟨gb, offb + j * 4, none⟩ = some (.int .i64 b.1.num) ∧ w'.cell? ⟨gb, offb + j * 4 + 1, none⟩ = some (.int .i64 b.1.den)) (first | with_reducible exact ⟨k0, k1, j0, j1⟩ | go_keep)
              (first | (go_at_call 25; refine (refCmp_is a.1 b.1 cc _ Ga.out.1 Gb.out.1 HC.out).mono ?_; rintro e w9 ⟨rfl, hb9⟩; have hw9 : Below w.heap.size w w9 := stepH (by (repeat' (first | with_reducible exact Below.refl _ _ | with_reducible assumption | with_reducible refine Below.drew ?_ | with_reducible refine below_drewN ?_ _ | with_reducible refine Below.setCell ?_ ?_ _ | with_reducible refine Below.alloc ?_ ?_ _ | omega | (simp; done) | (simp; omega)))) hb9; have HO := Lib.hid (own_below HO.out (w' := w9) (by first | exact hb9 | exact ⟨hb9.os, hb9.tape, hb9.output, hb9.size, hb9.block⟩)); have zw9 := hw9.size; have k0 := cellOf hb9 (by first | exact k0 | exact cell_drew k0); have k1 := cellOf hb9 (by first | exact k1 | exact cell_drew k1); have j0 := cellOf hb9 (by first | exact j0 | exact cell_drew j0); have j1 := cellOf hb9 (by first | exact j1 | exact cell_drew j1)))
            go_wp2_with fail
            go_region_held3 (fun w' => w'.cell? ⟨ga, offa + i * 4, none⟩ = some (.int .i64 a.1.num) ∧ w'.cell? ⟨ga, offa + i * 4 + 1, none⟩ = some (.int .i64 a.1.den) ∧ w'.cell? ⟨gb, offb + j * 4, none⟩ = some (.int .i64 b.1.num) ∧ w'.cell? ⟨gb, offb + j * 4 + 1, none⟩ = some (.int .i64 b.1.den)) (first | with_reducible exact ⟨k0, k1, j0, j1⟩ | go_keep)
              (first | (go_at_call 25; refine (refCmp_is b.1 a.1 (-1) _ Gb.out.1 Ga.out.1 HC2.out).mono ?_; rintro e w10 ⟨rfl, hb10⟩; have hw10 : Below w.heap.size w w10 := stepH (by (repeat' (first | with_reducible exact Below.refl _ _ | with_reducible assumption | with_reducible refine Below.drew ?_ | with_reducible refine below_drewN ?_ _ | with_reducible refine Below.setCell ?_ ?_ _ | with_reducible refine Below.alloc ?_ ?_ _ | omega | (simp; done) | (simp; omega)))) hb10; have HO := Lib.hid (own_below HO.out (w' := w10) (by first | exact hb10 | exact ⟨hb10.os, hb10.tape, hb10.output, hb10.size, hb10.block⟩)); have zw10 := hw10.size; have k0 := cellOf hb10 (by first | exact k0 | exact cell_drew k0); have k1 := cellOf hb10 (by first | exact k1 | exact cell_drew k1); have j0 := cellOf hb10 (by first | exact j0 | exact cell_drew j0); have j1 := cellOf hb10 (by first | exact j1 | exact cell_drew j1)))
            go_wp2_with (at_builtin; go_must (refine wpList_append_own _ rfl (.tmp 84) (.tmp 90) 39 rfl w.heap.size 24 inf1 _ 2 16 Tryd.underlying39 hi1 jf0 jf1 jf2 rfl (by decide) _ o.length _ rfl (own_below HO.out (by (repeat' (first | with_reducible exact Below.refl _ _ | with_reducible assumption | with_reducible refine Below.drew ?_ | with_reducible refine below_drewN ?_ _ | with_reducible refine Below.setCell ?_ ?_ _ | with_reducible refine Below.alloc ?_ ?_ _ | omega | (simp; done) | (simp; omega))))) ⟨w10.heap.size, 0, none⟩ 1 1 [.int .i64 b.1.num, .int .i64 b.1.den] rfl rfl (World.news_of_block (cs := #[.int .i64 b.1.num, .int .i64 b.1.den]) (blk_new (by simp))) (by simp [Value.oneCell']) (by unfold maxLen; omega) (by omega) (by simp; omega) ?_); intro v' w12 hown9 hgrow9 _)
            go_roundw
            case rel =>
              refine ⟨i, j + 1, o ++ [b.1], by omega, by omega, by go_num, by go_num, by simp; omega, Lib.hid (hF.out.right HU.out Hb.out (fun b' h => by rw [Ha.out] at h; cases h; exact HBA.out)), ?_, ?_⟩
              · show World.ownsRow _ _ _ _ _ _ _
                rw [List.map_append, List.flatMap_append]; simpa [encF, fq] using hown9
              · exact Below.grown (by (repeat' (first | with_reducible exact Below.refl _ _ | with_reducible assumption | with_reducible refine Below.drew ?_ | with_reducible refine below_drewN ?_ _ | with_reducible refine Below.setCell ?_ ?_ _ | with_reducible refine Below.alloc ?_ ?_ _ | omega | (simp; done) | (simp; omega)))) hgrow9 (by simp; omega) (fun g hg => (HO.out.lt g hg).1)
            case measure => simp [intOf]; omega
          · have hd2 : decide (cd < 0) = false := by rw [← HC2.out]; exact decide_eq_false (by have := cmp_ge hba; omega)
            have HEQ : Hid (a.1 = b.1) := Lib.hid (by grind)
            clear hab hba
            go_wp2_with fail
            go_region_held3 (fun w' => w'.cell? ⟨ga, offa + i * 4, none⟩ = some (.int .i64 a.1.num) ∧ w'.cell? ⟨ga, offa + i * 4 + 1, none⟩ = some (.int .i64 a.1.den) ∧ w'.cell? ⟨gb, offb + j * 4, none⟩ = some (.int .i64 b.1.num) ∧ w'.cell? ⟨gb, offb + j * 4 + 1, none⟩ = some (.int .i64 b.1.den)) (first | with_reducible exact ⟨k0, k1, j0, j1⟩ | go_keep)
              (first | (go_at_call 25; refine (refCmp_is a.1 b.1 cc _ Ga.out.1 Gb.out.1 HC.out).mono ?_; rintro e w9 ⟨rfl, hb9⟩; have hw9 : Below w.heap.size w w9 := stepH (by (repeat' (first | with_reducible exact Below.refl _ _ | with_reducible assumption | with_reducible refine Below.drew ?_ | with_reducible refine below_drewN ?_ _ | with_reducible refine Below.setCell ?_ ?_ _ | with_reducible refine Below.alloc ?_ ?_ _ | omega | (simp; done) | (simp; omega)))) hb9; have HO := Lib.hid (own_below HO.out (w' := w9) (by first | exact hb9 | exact ⟨hb9.os, hb9.tape, hb9.output, hb9.size, hb9.block⟩)); have zw9 := hw9.size; have k0 := cellOf hb9 (by first | exact k0 | exact cell_drew k0); have k1 := cellOf hb9 (by first | exact k1 | exact cell_drew k1); have j0 := cellOf hb9 (by first | exact j0 | exact cell_drew j0); have j1 := cellOf hb9 (by first | exact j1 | exact cell_drew j1)))
            go_wp2_with fail
            go_region_held3 (fun w' => w'.cell? ⟨ga, offa + i * 4, none⟩ = some (.int .i64 a.1.num) ∧ w'.cell? ⟨ga, offa + i * 4 + 1, none⟩ = some (.int .i64 a.1.den) ∧ w'.cell? ⟨gb, offb + j * 4, none⟩ = some (.int .i64 b.1.num) ∧ w'.cell? ⟨gb, offb + j * 4 + 1, none⟩ = some (.int .i64 b.1.den)) (first | with_reducible exact ⟨k0, k1, j0, j1⟩ | go_keep)
              (first | (go_at_call 25; refine (refCmp_is b.1 a.1 cd _ Gb.out.1 Ga.out.1 HC2.out).mono ?_; rintro e w10 ⟨rfl, hb10⟩; have hw10 : Below w.heap.size w w10 := stepH (by (repeat' (first | with_reducible exact Below.refl _ _ | with_reducible assumption | with_reducible refine Below.drew ?_ | with_reducible refine below_drewN ?_ _ | with_reducible refine Below.setCell ?_ ?_ _ | with_reducible refine Below.alloc ?_ ?_ _ | omega | (simp; done) | (simp; omega)))) hb10; have HO := Lib.hid (own_below HO.out (w' := w10) (by first | exact hb10 | exact ⟨hb10.os, hb10.tape, hb10.output, hb10.size, hb10.block⟩)); have zw10 := hw10.size; have k0 := cellOf hb10 (by first | exact k0 | exact cell_drew k0); have k1 := cellOf hb10 (by first | exact k1 | exact cell_drew k1); have j0 := cellOf hb10 (by first | exact j0 | exact cell_drew j0); have j1 := cellOf hb10 (by first | exact j1 | exact cell_drew j1)))
            go_wp2_with (at_builtin; go_must (refine wpList_append_own _ rfl (.tmp 18) (.tmp 24) 39 rfl w.heap.size 24 inf1 _ 2 16 Tryd.underlying39 hi1 jf0 jf1 jf2 rfl (by decide) _ o.length _ rfl (own_below HO.out (by (repeat' (first | with_reducible exact Below.refl _ _ | with_reducible assumption | with_reducible refine Below.drew ?_ | with_reducible refine below_drewN ?_ _ | with_reducible refine Below.setCell ?_ ?_ _ | with_reducible refine Below.alloc ?_ ?_ _ | omega | (simp; done) | (simp; omega))))) ⟨w10.heap.size, 0, none⟩ 1 1 [.int .i64 a.1.num, .int .i64 a.1.den] rfl rfl (World.news_of_block (cs := #[.int .i64 a.1.num, .int .i64 a.1.den]) (blk_new (by simp))) (by simp [Value.oneCell']) (by unfold maxLen; omega) (by omega) (by simp; omega) ?_); intro v' w12 hown9 hgrow9 _)
            go_roundw
            case rel =>
              refine ⟨i + 1, j + 1, o ++ [a.1], by omega, by omega, by go_num, by go_num, by simp; omega, Lib.hid (hF.out.both HS.out HU.out Ha.out Hb.out HEQ.out), ?_, ?_⟩
              · show World.ownsRow _ _ _ _ _ _ _
                rw [List.map_append, List.flatMap_append]; simpa [encF, fq] using hown9
              · exact Below.grown (by (repeat' (first | with_reducible exact Below.refl _ _ | with_reducible assumption | with_reducible refine Below.drew ?_ | with_reducible refine below_drewN ?_ _ | with_reducible refine Below.setCell ?_ ?_ _ | with_reducible refine Below.alloc ?_ ?_ _ | omega | (simp; done) | (simp; omega)))) hgrow9 (by simp; omega) (fun g hg => (HO.out.lt g hg).1)
            case measure => simp [intOf]; omega
      · obtain rfl : i = gs.length := by omega
        have q2 : (j : Int) < (ts.length : Int) := by omega
        have q3 : ((j : Int) == (ts.length : Int)) = false := beq_false_of_ne (by omega)
        go_wp2_with fail
        refine wp_region_held_drew (S := fun w' => w'.cell? ⟨gb, offb + j * 4, none⟩ = some (.int .i64 b.1.num) ∧ w'.cell? ⟨gb, offb + j * 4 + 1, none⟩ = some (.int .i64 b.1.den)) (by kernel_rfl) ?_ (fun hH0 => ?_)
        · exact ⟨j0, j1⟩
        refine wpAnyH_take (i := 0) (oi := { dst := some 31, op := Go.Op.move (Go.Operand.tmp 7), type := 3, pos := "scale.go:138", after := #[], guard := none }) (v := ?_) rfl (by kernel_rfl) (by kernel_rfl) (by kernel_rfl) (fun _ _ _ h => h) (Or.inl ⟨by rfl, ?_⟩) (by assumption) ?_
        rotate_left
        · intro wq hSw; (try dsimp only at hSw); go_simp; (try with_reducible rfl)
        try simp only [Act.put, List.setIfInBounds_toArray, List.set_cons_zero, List.set_cons_succ]
        refine wpAnyH_take (i := 1) (oi := { dst := some 32, op := Go.Op.move (Go.Operand.tmp 1), type := 22, pos := "scale.go:138", after := #[], guard := none }) (v := ?_) rfl (by kernel_rfl) (by kernel_rfl) (by kernel_rfl) (fun _ _ _ h => h) (Or.inl ⟨by rfl, ?_⟩) (by assumption) ?_
        rotate_left
        · intro wq hSw; (try dsimp only at hSw); go_simp; (try with_reducible rfl)
        try simp only [Act.put, List.setIfInBounds_toArray, List.set_cons_zero, List.set_cons_succ]
        refine wpAnyH_take (i := 2) (oi := { dst := some 33, op := Go.Op.call { callee := Go.Callee.builtin Go.Builtin.len, args := #[Go.Operand.tmp 32], argTypes := #[22] }, type := 3, pos := "scale.go:138", after := #[{ on := 1, ground := Go.Ground.data }], guard := none }) (v := ?_) rfl (by kernel_rfl) (by kernel_rfl) (by kernel_rfl) (fun _ _ _ h => h) (Or.inl ⟨by rfl, ?_⟩) (by assumption) ?_
        rotate_left
        · intro wq hSw; (try dsimp only at hSw); go_simp; (try with_reducible rfl)
        try simp only [Act.put, List.setIfInBounds_toArray, List.set_cons_zero, List.set_cons_succ]
        refine wpAnyH_take (i := 3) (oi := { dst := some 34, op := Go.Op.binOp Go.BinOp.eql 3 (Go.Operand.tmp 31) (Go.Operand.tmp 33) 3, type := 4, pos := "scale.go:138", after := #[{ on := 0, ground := Go.Ground.data }, { on := 2, ground := Go.Ground.data }], guard := none }) (v := ?_) rfl (by kernel_rfl) (by kernel_rfl) (by kernel_rfl) (fun _ _ _ h => h) (Or.inl ⟨by rfl, ?_⟩) (by assumption) ?_
        rotate_left
        · intro wq hSw; (try dsimp only at hSw); go_simp; (try with_reducible rfl)
        try simp only [Act.put, List.setIfInBounds_toArray, List.set_cons_zero, List.set_cons_succ]
        refine wpAnyH_take (i := 4) (oi := { dst := some 35, op := Go.Op.move (Go.Operand.tmp 34), type := 4, pos := "scale.go:138", after := #[{ on := 3, ground := Go.Ground.data }], guard := none }) (v := ?_) rfl (by kernel_rfl) (by kernel_rfl) (by kernel_rfl) (fun _ _ _ h => h) (Or.inl ⟨by rfl, ?_⟩) (by assumption) ?_
        rotate_left
        · intro wq hSw; (try dsimp only at hSw); go_simp; (try with_reducible rfl)
        try simp only [Act.put, List.setIfInBounds_toArray, List.set_cons_zero, List.set_cons_succ]
        refine wpAnyH_take (i := 5) (oi := { dst := some 36, op := Go.Op.move (Go.Operand.tmp 6), type := 3, pos := "scale.go:138", after := #[{ on := 4, ground := Go.Ground.guard }], guard := some (4, false) }) (v := ?_) rfl (by kernel_rfl) (by kernel_rfl) (by kernel_rfl) (fun _ _ _ h => h) (Or.inl ⟨by rfl, ?_⟩) (by assumption) ?_
        rotate_left
        · intro wq hSw; (try dsimp only at hSw); go_simp; (try with_reducible rfl)
        try simp only [Act.put, List.setIfInBounds_toArray, List.set_cons_zero, List.set_cons_succ]
        refine wpAnyH_take (i := 6) (oi := { dst := some 37, op := Go.Op.move (Go.Operand.tmp 0), type := 22, pos := "scale.go:138", after := #[{ on := 4, ground := Go.Ground.guard }], guard := some (4, false) }) (v := ?_) rfl (by kernel_rfl) (by kernel_rfl) (by kernel_rfl) (fun _ _ _ h => h) (Or.inl ⟨by rfl, ?_⟩) (by assumption) ?_
        rotate_left
        · intro wq hSw; (try dsimp only at hSw); go_simp; (try with_reducible rfl)
        try simp only [Act.put, List.setIfInBounds_toArray, List.set_cons_zero, List.set_cons_succ]
        refine wpAnyH_take (i := 7) (oi := { dst := some 38, op := Go.Op.call { callee := Go.Callee.builtin Go.Builtin.len, args := #[Go.Operand.tmp 37], argTypes := #[22] }, type := 3, pos := "scale.go:138", after := #[{ on := 6, ground := Go.Ground.data }, { on := 4, ground := Go.Ground.guard }], guard := some (4, false) }) (v := ?_) rfl (by kernel_rfl) (by kernel_rfl) (by kernel_rfl) (fun _ _ _ h => h) (Or.inl ⟨by rfl, ?_⟩) (by assumption) ?_
        rotate_left
        · intro wq hSw; (try dsimp only at hSw); go_simp; (try with_reducible rfl)
        try simp only [Act.put, List.setIfInBounds_toArray, List.set_cons_zero, List.set_cons_succ]
        refine wpAnyH_take (i := 8) (oi := { dst := some 39, op := Go.Op.binOp Go.BinOp.lss 3 (Go.Operand.tmp 36) (Go.Operand.tmp 38) 3, type := 4, pos := "scale.go:138", after := #[{ on := 5, ground := Go.Ground.data }, { on := 7, ground := Go.Ground.data }, { on := 4, ground := Go.Ground.guard }], guard := some (4, false) }) (v := ?_) rfl (by kernel_rfl) (by kernel_rfl) (by kernel_rfl) (fun _ _ _ h => h) (Or.inl ⟨by rfl, ?_⟩) (by assumption) ?_
        rotate_left
        · intro wq hSw; (try dsimp only at hSw); go_simp; (try with_reducible rfl)
        try simp only [Act.put, List.setIfInBounds_toArray, List.set_cons_zero, List.set_cons_succ]
        refine wpAnyH_take (i := 9) (oi := { dst := some 40, op := Go.Op.move (Go.Operand.tmp 39), type := 4, pos := "scale.go:138", after := #[{ on := 8, ground := Go.Ground.data }, { on := 4, ground := Go.Ground.chain }, { on := 4, ground := Go.Ground.guard }], guard := some (4, false) }) (v := ?_) rfl (by kernel_rfl) (by kernel_rfl) (by kernel_rfl) (fun _ _ _ h => h) (Or.inl ⟨by rfl, ?_⟩) (by assumption) ?_
        rotate_left
        · intro wq hSw; (try dsimp only at hSw); go_simp; (try with_reducible rfl)
        try simp only [Act.put, List.setIfInBounds_toArray, List.set_cons_zero, List.set_cons_succ]
        refine wpAnyH_take (i := 10) (oi := { dst := some 41, op := Go.Op.move (Go.Operand.tmp 0), type := 22, pos := "scale.go:138", after := #[{ on := 9, ground := Go.Ground.guard }], guard := some (9, true) }) (v := undef) rfl (by kernel_rfl) (by kernel_rfl) (by kernel_rfl) (fun _ _ _ h => h) (Or.inr ⟨by rfl, rfl⟩) (by assumption) ?_
        try simp only [Act.put, List.setIfInBounds_toArray, List.set_cons_zero, List.set_cons_succ]
        refine wpAnyH_take (i := 11) (oi := { dst := some 42, op := Go.Op.move (Go.Operand.tmp 6), type := 3, pos := "scale.go:138", after := #[{ on := 9, ground := Go.Ground.guard }], guard := some (9, true) }) (v := undef) rfl (by kernel_rfl) (by kernel_rfl) (by kernel_rfl) (fun _ _ _ h => h) (Or.inr ⟨by rfl, rfl⟩) (by assumption) ?_
        try simp only [Act.put, List.setIfInBounds_toArray, List.set_cons_zero, List.set_cons_succ]
        refine wpAnyH_take (i := 12) (oi := { dst := some 43, op := Go.Op.indexAddr 22 (Go.Operand.tmp 41) (Go.Operand.tmp 42), type := 0, pos := "scale.go:138", after := #[{ on := 10, ground := Go.Ground.data }, { on := 11, ground := Go.Ground.data }, { on := 9, ground := Go.Ground.guard }], guard := some (9, true) }) (v := undef) rfl (by kernel_rfl) (by kernel_rfl) (by kernel_rfl) (fun _ _ _ h => h) (Or.inr ⟨by rfl, rfl⟩) (by assumption) ?_
        try simp only [Act.put, List.setIfInBounds_toArray, List.set_cons_zero, List.set_cons_succ]
        refine wpAnyH_take (i := 13) (oi := { dst := some 44, op := Go.Op.fieldAddr 31 (Go.Operand.tmp 43) 0, type := 0, pos := "scale.go:138", after := #[{ on := 12, ground := Go.Ground.data }, { on := 9, ground := Go.Ground.guard }], guard := some (9, true) }) (v := undef) rfl (by kernel_rfl) (by kernel_rfl) (by kernel_rfl) (fun _ _ _ h => h) (Or.inr ⟨by rfl, rfl⟩) (by assumption) ?_
        try simp only [Act.put, List.setIfInBounds_toArray, List.set_cons_zero, List.set_cons_succ]
        refine wpAnyH_take (i := 14) (oi := { dst := some 45, op := Go.Op.load 24 (Go.Operand.tmp 44), type := 24, pos := "scale.go:138", after := #[{ on := 13, ground := Go.Ground.data }, { on := 9, ground := Go.Ground.guard }], guard := some (9, true) }) (v := undef) rfl (by kernel_rfl) (by kernel_rfl) (by kernel_rfl) (fun _ _ _ h => h) (Or.inr ⟨by rfl, rfl⟩) (by assumption) ?_
        try simp only [Act.put, List.setIfInBounds_toArray, List.set_cons_zero, List.set_cons_succ]
        refine wpAnyH_take (i := 15) (oi := { dst := some 46, op := Go.Op.move (Go.Operand.tmp 1), type := 22, pos := "scale.go:138", after := #[{ on := 9, ground := Go.Ground.guard }], guard := some (9, true) }) (v := undef) rfl (by kernel_rfl) (by kernel_rfl) (by kernel_rfl) (fun _ _ _ h => h) (Or.inr ⟨by rfl, rfl⟩) (by assumption) ?_
        try simp only [Act.put, List.setIfInBounds_toArray, List.set_cons_zero, List.set_cons_succ]
        refine wpAnyH_take (i := 16) (oi := { dst := some 47, op := Go.Op.move (Go.Operand.tmp 7), type := 3, pos := "scale.go:138", after := #[{ on := 9, ground := Go.Ground.guard }], guard := some (9, true) }) (v := undef) rfl (by kernel_rfl) (by kernel_rfl) (by kernel_rfl) (fun _ _ _ h => h) (Or.inr ⟨by rfl, rfl⟩) (by assumption) ?_
        try simp only [Act.put, List.setIfInBounds_toArray, List.set_cons_zero, List.set_cons_succ]
        refine wpAnyH_take (i := 17) (oi := { dst := some 48, op := Go.Op.indexAddr 22 (Go.Operand.tmp 46) (Go.Operand.tmp 47), type := 0, pos := "scale.go:138", after := #[{ on := 15, ground := Go.Ground.data }, { on := 16, ground := Go.Ground.data }, { on := 9, ground := Go.Ground.guard }], guard := some (9, true) }) (v := undef) rfl (by kernel_rfl) (by kernel_rfl) (by kernel_rfl) (fun _ _ _ h => h) (Or.inr ⟨by rfl, rfl⟩) (by assumption) ?_
        try simp only [Act.put, List.setIfInBounds_toArray, List.set_cons_zero, List.set_cons_succ]
        refine wpAnyH_take (i := 18) (oi := { dst := some 49, op := Go.Op.fieldAddr 31 (Go.Operand.tmp 48) 0, type := 0, pos := "scale.go:138", after := #[{ on := 17, ground := Go.Ground.data }, { on := 9, ground := Go.Ground.guard }], guard := some (9, true) }) (v := undef) rfl (by kernel_rfl) (by kernel_rfl) (by kernel_rfl) (fun _ _ _ h => h) (Or.inr ⟨by rfl, rfl⟩) (by assumption) ?_
        try simp only [Act.put, List.setIfInBounds_toArray, List.set_cons_zero, List.set_cons_succ]
        refine wpAnyH_take (i := 19) (oi := { dst := some 50, op := Go.Op.load 24 (Go.Operand.tmp 49), type := 24, pos := "scale.go:138", after := #[{ on := 18, ground := Go.Ground.data }, { on := 9, ground := Go.Ground.guard }], guard := some (9, true) }) (v := undef) rfl (by kernel_rfl) (by kernel_rfl) (by kernel_rfl) (fun _ _ _ h => h) (Or.inr ⟨by rfl, rfl⟩) (by assumption) ?_
        try simp only [Act.put, List.setIfInBounds_toArray, List.set_cons_zero, List.set_cons_succ]
        refine wpAnyH_take (i := 20) (oi := { dst := some 51, op := Go.Op.call { callee := Go.Callee.value (Go.Operand.func 25), args := #[Go.Operand.tmp 45, Go.Operand.tmp 50], argTypes := #[24, 24] }, type := 3, pos := "scale.go:138", after := #[{ on := 14, ground := Go.Ground.data }, { on := 19, ground := Go.Ground.data }, { on := 9, ground := Go.Ground.chain }, { on := 9, ground := Go.Ground.guard }], guard := some (9, true) }) (v := undef) rfl (by kernel_rfl) (by kernel_rfl) (by kernel_rfl) (fun _ _ _ h => h) (Or.inr ⟨by rfl, rfl⟩) (by assumption) ?_
        try simp only [Act.put, List.setIfInBounds_toArray, List.set_cons_zero, List.set_cons_succ]
        refine wpAnyH_take (i := 21) (oi := { dst := some 52, op := Go.Op.binOp Go.BinOp.lss 3 (Go.Operand.tmp 51) (Go.Operand.const (Go.Value.int Go.IntKind.i64 0)) 3, type := 4, pos := "scale.go:138", after := #[{ on := 20, ground := Go.Ground.data }, { on := 9, ground := Go.Ground.guard }], guard := some (9, true) }) (v := undef) rfl (by kernel_rfl) (by kernel_rfl) (by kernel_rfl) (fun _ _ _ h => h) (Or.inr ⟨by rfl, rfl⟩) (by assumption) ?_
        try simp only [Act.put, List.setIfInBounds_toArray, List.set_cons_zero, List.set_cons_succ]
        refine wpAnyH_take (i := 22) (oi := { dst := some 53, op := Go.Op.pick (Go.Operand.tmp 40) (Go.Operand.tmp 52) (Go.Operand.const (Go.Value.bool false)), type := 4, pos := "scale.go:138", after := #[{ on := 9, ground := Go.Ground.data }, { on := 21, ground := Go.Ground.data }, { on := 4, ground := Go.Ground.guard }], guard := some (4, false) }) (v := ?_) rfl (by kernel_rfl) (by kernel_rfl) (by kernel_rfl) (fun _ _ _ h => h) (Or.inl ⟨by rfl, ?_⟩) (by assumption) ?_
        rotate_left
        · intro wq hSw; (try dsimp only at hSw); go_simp; (try with_reducible rfl)
        try simp only [Act.put, List.setIfInBounds_toArray, List.set_cons_zero, List.set_cons_succ]
        refine wpAnyH_take (i := 23) (oi := { dst := some 54, op := Go.Op.pick (Go.Operand.tmp 35) (Go.Operand.const (Go.Value.bool true)) (Go.Operand.tmp 53), type := 4, pos := "scale.go:138", after := #[{ on := 4, ground := Go.Ground.data }, { on := 22, ground := Go.Ground.data }], guard := none }) (v := ?_) rfl (by kernel_rfl) (by kernel_rfl) (by kernel_rfl) (fun _ _ _ h => h) (Or.inl ⟨by rfl, ?_⟩) (by assumption) ?_
        rotate_left
        · intro wq hSw; (try dsimp only at hSw); go_simp; (try with_reducible rfl)
        try simp only [Act.put, List.setIfInBounds_toArray, List.set_cons_zero, List.set_cons_succ]
        refine wpAnyH_take (i := 24) (oi := { dst := some 30, op := Go.Op.assign (Go.Operand.tmp 54), type := 4, pos := "scale.go:138", after := #[{ on := 23, ground := Go.Ground.data }, { on := 20, ground := Go.Ground.chain }], guard := none }) (v := ?_) rfl (by kernel_rfl) (by kernel_rfl) (by kernel_rfl) (fun _ _ _ h => h) (Or.inl ⟨by rfl, ?_⟩) (by assumption) ?_
        rotate_left
        · intro wq hSw; (try dsimp only at hSw); go_simp; (try with_reducible rfl)
        try simp only [Act.put, List.setIfInBounds_toArray, List.set_cons_zero, List.set_cons_succ]
        refine wpAnyH_done (by kernel_rfl) ?_ _
        replace j0 : wr.drew.cell? ⟨gb, offb + j * 4, none⟩ = some (.int .i64 b.1.num) := cell_drew j0
        replace j1 : wr.drew.cell? ⟨gb, offb + j * 4 + 1, none⟩ = some (.int .i64 b.1.den) := cell_drew j1
        go_wp2_with fail
        refine wp_region_held_drew (S := fun w' => w'.cell? ⟨gb, offb + j * 4, none⟩ = some (.int .i64 b.1.num) ∧ w'.cell? ⟨gb, offb + j * 4 + 1, none⟩ = some (.int .i64 b.1.den)) (by kernel_rfl) ?_ (fun hH0 => ?_)
        · exact ⟨j0, j1⟩
        refine wpAnyH_take (i := 0) (oi := { dst := some 66, op := Go.Op.move (Go.Operand.tmp 6), type := 3, pos := "scale.go:141", after := #[], guard := none }) (v := ?_) rfl (by kernel_rfl) (by kernel_rfl) (by kernel_rfl) (fun _ _ _ h => h) (Or.inl ⟨by rfl, ?_⟩) (by assumption) ?_
        rotate_left
        · intro wq hSw; (try dsimp only at hSw); go_simp; (try with_reducible rfl)
        try simp only [Act.put, List.setIfInBounds_toArray, List.set_cons_zero, List.set_cons_succ]
        refine wpAnyH_take (i := 1) (oi := { dst := some 67, op := Go.Op.move (Go.Operand.tmp 0), type := 22, pos := "scale.go:141", after := #[], guard := none }) (v := ?_) rfl (by kernel_rfl) (by kernel_rfl) (by kernel_rfl) (fun _ _ _ h => h) (Or.inl ⟨by rfl, ?_⟩) (by assumption) ?_
        rotate_left
        · intro wq hSw; (try dsimp only at hSw); go_simp; (try with_reducible rfl)
        try simp only [Act.put, List.setIfInBounds_toArray, List.set_cons_zero, List.set_cons_succ]
        refine wpAnyH_take (i := 2) (oi := { dst := some 68, op := Go.Op.call { callee := Go.Callee.builtin Go.Builtin.len, args := #[Go.Operand.tmp 67], argTypes := #[22] }, type := 3, pos := "scale.go:141", after := #[{ on := 1, ground := Go.Ground.data }], guard := none }) (v := ?_) rfl (by kernel_rfl) (by kernel_rfl) (by kernel_rfl) (fun _ _ _ h => h) (Or.inl ⟨by rfl, ?_⟩) (by assumption) ?_
        rotate_left
        · intro wq hSw; (try dsimp only at hSw); go_simp; (try with_reducible rfl)
        try simp only [Act.put, List.setIfInBounds_toArray, List.set_cons_zero, List.set_cons_succ]
        refine wpAnyH_take (i := 3) (oi := { dst := some 69, op := Go.Op.binOp Go.BinOp.eql 3 (Go.Operand.tmp 66) (Go.Operand.tmp 68) 3, type := 4, pos := "scale.go:141", after := #[{ on := 0, ground := Go.Ground.data }, { on := 2, ground := Go.Ground.data }], guard := none }) (v := ?_) rfl (by kernel_rfl) (by kernel_rfl) (by kernel_rfl) (fun _ _ _ h => h) (Or.inl ⟨by rfl, ?_⟩) (by assumption) ?_
        rotate_left
        · intro wq hSw; (try dsimp only at hSw); go_simp; (try with_reducible rfl)
        try simp only [Act.put, List.setIfInBounds_toArray, List.set_cons_zero, List.set_cons_succ]
        refine wpAnyH_take (i := 4) (oi := { dst := some 70, op := Go.Op.move (Go.Operand.tmp 69), type := 4, pos := "scale.go:141", after := #[{ on := 3, ground := Go.Ground.data }], guard := none }) (v := ?_) rfl (by kernel_rfl) (by kernel_rfl) (by kernel_rfl) (fun _ _ _ h => h) (Or.inl ⟨by rfl, ?_⟩) (by assumption) ?_
        rotate_left
        · intro wq hSw; (try dsimp only at hSw); go_simp; (try with_reducible rfl)
        try simp only [Act.put, List.setIfInBounds_toArray, List.set_cons_zero, List.set_cons_succ]
        refine wpAnyH_take (i := 5) (oi := { dst := some 71, op := Go.Op.move (Go.Operand.tmp 1), type := 22, pos := "scale.go:141", after := #[{ on := 4, ground := Go.Ground.guard }], guard := some (4, false) }) (v := undef) rfl (by kernel_rfl) (by kernel_rfl) (by kernel_rfl) (fun _ _ _ h => h) (Or.inr ⟨by rfl, rfl⟩) (by assumption) ?_
        try simp only [Act.put, List.setIfInBounds_toArray, List.set_cons_zero, List.set_cons_succ]
        refine wpAnyH_take (i := 6) (oi := { dst := some 72, op := Go.Op.move (Go.Operand.tmp 7), type := 3, pos := "scale.go:141", after := #[{ on := 4, ground := Go.Ground.guard }], guard := some (4, false) }) (v := undef) rfl (by kernel_rfl) (by kernel_rfl) (by kernel_rfl) (fun _ _ _ h => h) (Or.inr ⟨by rfl, rfl⟩) (by assumption) ?_
        try simp only [Act.put, List.setIfInBounds_toArray, List.set_cons_zero, List.set_cons_succ]
        refine wpAnyH_take (i := 7) (oi := { dst := some 73, op := Go.Op.indexAddr 22 (Go.Operand.tmp 71) (Go.Operand.tmp 72), type := 0, pos := "scale.go:141", after := #[{ on := 5, ground := Go.Ground.data }, { on := 6, ground := Go.Ground.data }, { on := 4, ground := Go.Ground.guard }], guard := some (4, false) }) (v := undef) rfl (by kernel_rfl) (by kernel_rfl) (by kernel_rfl) (fun _ _ _ h => h) (Or.inr ⟨by rfl, rfl⟩) (by assumption) ?_
        try simp only [Act.put, List.setIfInBounds_toArray, List.set_cons_zero, List.set_cons_succ]
        refine wpAnyH_take (i := 8) (oi := { dst := some 74, op := Go.Op.fieldAddr 31 (Go.Operand.tmp 73) 0, type := 0, pos := "scale.go:141", after := #[{ on := 7, ground := Go.Ground.data }, { on := 4, ground := Go.Ground.guard }], guard := some (4, false) }) (v := undef) rfl (by kernel_rfl) (by kernel_rfl) (by kernel_rfl) (fun _ _ _ h => h) (Or.inr ⟨by rfl, rfl⟩) (by assumption) ?_
        try simp only [Act.put, List.setIfInBounds_toArray, List.set_cons_zero, List.set_cons_succ]
        refine wpAnyH_take (i := 9) (oi := { dst := some 75, op := Go.Op.load 24 (Go.Operand.tmp 74), type := 24, pos := "scale.go:141", after := #[{ on := 8, ground := Go.Ground.data }, { on := 4, ground := Go.Ground.guard }], guard := some (4, false) }) (v := undef) rfl (by kernel_rfl) (by kernel_rfl) (by kernel_rfl) (fun _ _ _ h => h) (Or.inr ⟨by rfl, rfl⟩) (by assumption) ?_
        try simp only [Act.put, List.setIfInBounds_toArray, List.set_cons_zero, List.set_cons_succ]
        refine wpAnyH_take (i := 10) (oi := { dst := some 76, op := Go.Op.move (Go.Operand.tmp 0), type := 22, pos := "scale.go:141", after := #[{ on := 4, ground := Go.Ground.guard }], guard := some (4, false) }) (v := undef) rfl (by kernel_rfl) (by kernel_rfl) (by kernel_rfl) (fun _ _ _ h => h) (Or.inr ⟨by rfl, rfl⟩) (by assumption) ?_
        try simp only [Act.put, List.setIfInBounds_toArray, List.set_cons_zero, List.set_cons_succ]
        refine wpAnyH_take (i := 11) (oi := { dst := some 77, op := Go.Op.move (Go.Operand.tmp 6), type := 3, pos := "scale.go:141", after := #[{ on := 4, ground := Go.Ground.guard }], guard := some (4, false) }) (v := undef) rfl (by kernel_rfl) (by kernel_rfl) (by kernel_rfl) (fun _ _ _ h => h) (Or.inr ⟨by rfl, rfl⟩) (by assumption) ?_
        try simp only [Act.put, List.setIfInBounds_toArray, List.set_cons_zero, List.set_cons_succ]
        refine wpAnyH_take (i := 12) (oi := { dst := some 78, op := Go.Op.indexAddr 22 (Go.Operand.tmp 76) (Go.Operand.tmp 77), type := 0, pos := "scale.go:141", after := #[{ on := 10, ground := Go.Ground.data }, { on := 11, ground := Go.Ground.data }, { on := 4, ground := Go.Ground.guard }], guard := some (4, false) }) (v := undef) rfl (by kernel_rfl) (by kernel_rfl) (by kernel_rfl) (fun _ _ _ h => h) (Or.inr ⟨by rfl, rfl⟩) (by assumption) ?_
        try simp only [Act.put, List.setIfInBounds_toArray, List.set_cons_zero, List.set_cons_succ]
        refine wpAnyH_take (i := 13) (oi := { dst := some 79, op := Go.Op.fieldAddr 31 (Go.Operand.tmp 78) 0, type := 0, pos := "scale.go:141", after := #[{ on := 12, ground := Go.Ground.data }, { on := 4, ground := Go.Ground.guard }], guard := some (4, false) }) (v := undef) rfl (by kernel_rfl) (by kernel_rfl) (by kernel_rfl) (fun _ _ _ h => h) (Or.inr ⟨by rfl, rfl⟩) (by assumption) ?_
        try simp only [Act.put, List.setIfInBounds_toArray, List.set_cons_zero, List.set_cons_succ]
        refine wpAnyH_take (i := 14) (oi := { dst := some 80, op := Go.Op.load 24 (Go.Operand.tmp 79), type := 24, pos := "scale.go:141", after := #[{ on := 13, ground := Go.Ground.data }, { on := 4, ground := Go.Ground.guard }], guard := some (4, false) }) (v := undef) rfl (by kernel_rfl) (by kernel_rfl) (by kernel_rfl) (fun _ _ _ h => h) (Or.inr ⟨by rfl, rfl⟩) (by assumption) ?_
        try simp only [Act.put, List.setIfInBounds_toArray, List.set_cons_zero, List.set_cons_succ]
        refine wpAnyH_take (i := 15) (oi := { dst := some 81, op := Go.Op.call { callee := Go.Callee.value (Go.Operand.func 25), args := #[Go.Operand.tmp 75, Go.Operand.tmp 80], argTypes := #[24, 24] }, type := 3, pos := "scale.go:141", after := #[{ on := 9, ground := Go.Ground.data }, { on := 14, ground := Go.Ground.data }, { on := 4, ground := Go.Ground.chain }, { on := 4, ground := Go.Ground.guard }], guard := some (4, false) }) (v := undef) rfl (by kernel_rfl) (by kernel_rfl) (by kernel_rfl) (fun _ _ _ h => h) (Or.inr ⟨by rfl, rfl⟩) (by assumption) ?_
        try simp only [Act.put, List.setIfInBounds_toArray, List.set_cons_zero, List.set_cons_succ]
        refine wpAnyH_take (i := 16) (oi := { dst := some 82, op := Go.Op.binOp Go.BinOp.lss 3 (Go.Operand.tmp 81) (Go.Operand.const (Go.Value.int Go.IntKind.i64 0)) 3, type := 4, pos := "scale.go:141", after := #[{ on := 15, ground := Go.Ground.data }, { on := 4, ground := Go.Ground.guard }], guard := some (4, false) }) (v := undef) rfl (by kernel_rfl) (by kernel_rfl) (by kernel_rfl) (fun _ _ _ h => h) (Or.inr ⟨by rfl, rfl⟩) (by assumption) ?_
        try simp only [Act.put, List.setIfInBounds_toArray, List.set_cons_zero, List.set_cons_succ]
        refine wpAnyH_take (i := 17) (oi := { dst := some 83, op := Go.Op.pick (Go.Operand.tmp 70) (Go.Operand.const (Go.Value.bool true)) (Go.Operand.tmp 82), type := 4, pos := "scale.go:141", after := #[{ on := 4, ground := Go.Ground.data }, { on := 16, ground := Go.Ground.data }], guard := none }) (v := ?_) rfl (by kernel_rfl) (by kernel_rfl) (by kernel_rfl) (fun _ _ _ h => h) (Or.inl ⟨by rfl, ?_⟩) (by assumption) ?_
        rotate_left
        · intro wq hSw; (try dsimp only at hSw); go_simp; (try with_reducible rfl)
        try simp only [Act.put, List.setIfInBounds_toArray, List.set_cons_zero, List.set_cons_succ]
        refine wpAnyH_take (i := 18) (oi := { dst := some 65, op := Go.Op.assign (Go.Operand.tmp 83), type := 4, pos := "scale.go:141", after := #[{ on := 17, ground := Go.Ground.data }, { on := 15, ground := Go.Ground.chain }], guard := none }) (v := ?_) rfl (by kernel_rfl) (by kernel_rfl) (by kernel_rfl) (fun _ _ _ h => h) (Or.inl ⟨by rfl, ?_⟩) (by assumption) ?_
        rotate_left
        · intro wq hSw; (try dsimp only at hSw); go_simp; (try with_reducible rfl)
        try simp only [Act.put, List.setIfInBounds_toArray, List.set_cons_zero, List.set_cons_succ]
        refine wpAnyH_done (by kernel_rfl) ?_ _
        go_wp2_with (at_builtin; go_must (refine wpList_append_own _ rfl (.tmp 84) (.tmp 90) 39 rfl w.heap.size 24 inf1 _ 2 16 Tryd.underlying39 hi1 jf0 jf1 jf2 rfl (by decide) _ o.length _ rfl (own_below HO.out (by (repeat' (first | with_reducible exact Below.refl _ _ | with_reducible assumption | with_reducible refine Below.drew ?_ | with_reducible refine below_drewN ?_ _ | with_reducible refine Below.setCell ?_ ?_ _ | with_reducible refine Below.alloc ?_ ?_ _ | omega | (simp; done) | (simp; omega))))) ⟨wr.heap.size, 0, none⟩ 1 1 [.int .i64 b.1.num, .int .i64 b.1.den] rfl rfl (World.news_of_block (cs := #[.int .i64 b.1.num, .int .i64 b.1.den]) (blk_new (by simp))) (by simp [Value.oneCell']) (by unfold maxLen; omega) (by omega) (by simp; omega) ?_); intro v' w12 hown9 hgrow9 _)
        go_roundw
        case rel =>
          refine ⟨gs.length, j + 1, o ++ [b.1], by omega, by omega, by go_num, by go_num, by simp; omega, Lib.hid (hF.out.right HU.out Hb.out (fun b' h => by rw [List.getElem?_eq_none (Nat.le_refl _)] at h; cases h)), ?_, ?_⟩
          · show World.ownsRow _ _ _ _ _ _ _
            rw [List.map_append, List.flatMap_append]; simpa [encF, fq] using hown9
          · exact Below.grown (by (repeat' (first | with_reducible exact Below.refl _ _ | with_reducible assumption | with_reducible refine Below.drew ?_ | with_reducible refine below_drewN ?_ _ | with_reducible refine Below.setCell ?_ ?_ _ | with_reducible refine Below.alloc ?_ ?_ _ | omega | (simp; done) | (simp; omega)))) hgrow9 (by simp; omega) (fun g hg => (HO.out.lt g hg).1)
        case measure => simp [intOf]; omega
    · obtain rfl : j = ts.length := by omega
      by_cases hi : i < gs.length
      · obtain ⟨a, ha⟩ : ∃ b, gs[i]? = some b := ⟨gs[i]'(by omega), List.getElem?_eq_getElem _⟩
        have Ga := Lib.hid (HG.out a (List.mem_of_getElem? ha))
        obtain ⟨ga, offa, hAa, hgBa, k0, k1, _, _⟩ := cells4 (HL.out.below hw0 (Nat.le_refl _)) (show (gs.map bR)[i]? = some (bR a) by rw [List.getElem?_map, ha]; rfl)
        subst hAa
        replace k0 : wr.cell? ⟨ga, offa + i * 4, none⟩ = some (.int .i64 a.1.num) := k0
        replace k1 : wr.cell? ⟨ga, offa + i * 4 + 1, none⟩ = some (.int .i64 a.1.den) := k1
        have Ha := Lib.hid ha
        clear ha
        have q1 : (i : Int) < (gs.length : Int) := by omega
        go_wp2_with fail
        refine wp_region_held_drew (S := fun w' => w'.cell? ⟨ga, offa + i * 4, none⟩ = some (.int .i64 a.1.num) ∧ w'.cell? ⟨ga, offa + i * 4 + 1, none⟩ = some (.int .i64 a.1.den)) (by kernel_rfl) ?_ (fun hH0 => ?_)
        · exact ⟨k0, k1⟩
        refine wpAnyH_take (i := 0) (oi := { dst := some 31, op := Go.Op.move (Go.Operand.tmp 7), type := 3, pos := "scale.go:138", after := #[], guard := none }) (v := ?_) rfl (by kernel_rfl) (by kernel_rfl) (by kernel_rfl) (fun _ _ _ h => h) (Or.inl ⟨by rfl, ?_⟩) (by assumption) ?_
        rotate_left
        · intro wq hSw; (try dsimp only at hSw); go_simp; (try with_reducible rfl)
        try simp only [Act.put, List.setIfInBounds_toArray, List.set_cons_zero, List.set_cons_succ]
        refine wpAnyH_take (i := 1) (oi := { dst := some 32, op := Go.Op.move (Go.Operand.tmp 1), type := 22, pos := "scale.go:138", after := #[], guard := none }) (v := ?_) rfl (by kernel_rfl) (by kernel_rfl) (by kernel_rfl) (fun _ _ _ h => h) (Or.inl ⟨by rfl, ?_⟩) (by assumption) ?_
        rotate_left
        · intro wq hSw; (try dsimp only at hSw); go_simp; (try with_reducible rfl)
        try simp only [Act.put, List.setIfInBounds_toArray, List.set_cons_zero, List.set_cons_succ]
        refine wpAnyH_take (i := 2) (oi := { dst := some 33, op := Go.Op.call { callee := Go.Callee.builtin Go.Builtin.len, args := #[Go.Operand.tmp 32], argTypes := #[22] }, type := 3, pos := "scale.go:138", after := #[{ on := 1, ground := Go.Ground.data }], guard := none }) (v := ?_) rfl (by kernel_rfl) (by kernel_rfl) (by kernel_rfl) (fun _ _ _ h => h) (Or.inl ⟨by rfl, ?_⟩) (by assumption) ?_
        rotate_left
        · intro wq hSw; (try dsimp only at hSw); go_simp; (try with_reducible rfl)
        try simp only [Act.put, List.setIfInBounds_toArray, List.set_cons_zero, List.set_cons_succ]
        refine wpAnyH_take (i := 3) (oi := { dst := some 34, op := Go.Op.binOp Go.BinOp.eql 3 (Go.Operand.tmp 31) (Go.Operand.tmp 33) 3, type := 4, pos := "scale.go:138", after := #[{ on := 0, ground := Go.Ground.data }, { on := 2, ground := Go.Ground.data }], guard := none }) (v := ?_) rfl (by kernel_rfl) (by kernel_rfl) (by kernel_rfl) (fun _ _ _ h => h) (Or.inl ⟨by rfl, ?_⟩) (by assumption) ?_
        rotate_left
        · intro wq hSw; (try dsimp only at hSw); go_simp; (try with_reducible rfl)
        try simp only [Act.put, List.setIfInBounds_toArray, List.set_cons_zero, List.set_cons_succ]
        refine wpAnyH_take (i := 4) (oi := { dst := some 35, op := Go.Op.move (Go.Operand.tmp 34), type := 4, pos := "scale.go:138", after := #[{ on := 3, ground := Go.Ground.data }], guard := none }) (v := ?_) rfl (by kernel_rfl) (by kernel_rfl) (by kernel_rfl) (fun _ _ _ h => h) (Or.inl ⟨by rfl, ?_⟩) (by assumption) ?_
        rotate_left
        · intro wq hSw; (try dsimp only at hSw); go_simp; (try with_reducible rfl)
        try simp only [Act.put, List.setIfInBounds_toArray, List.set_cons_zero, List.set_cons_succ]
        refine wpAnyH_take (i := 5) (oi := { dst := some 36, op := Go.Op.move (Go.Operand.tmp 6), type := 3, pos := "scale.go:138", after := #[{ on := 4, ground := Go.Ground.guard }], guard := some (4, false) }) (v := undef) rfl (by kernel_rfl) (by kernel_rfl) (by kernel_rfl) (fun _ _ _ h => h) (Or.inr ⟨by rfl, rfl⟩) (by assumption) ?_
        try simp only [Act.put, List.setIfInBounds_toArray, List.set_cons_zero, List.set_cons_succ]
        refine wpAnyH_take (i := 6) (oi := { dst := some 37, op := Go.Op.move (Go.Operand.tmp 0), type := 22, pos := "scale.go:138", after := #[{ on := 4, ground := Go.Ground.guard }], guard := some (4, false) }) (v := undef) rfl (by kernel_rfl) (by kernel_rfl) (by kernel_rfl) (fun _ _ _ h => h) (Or.inr ⟨by rfl, rfl⟩) (by assumption) ?_
        try simp only [Act.put, List.setIfInBounds_toArray, List.set_cons_zero, List.set_cons_succ]
        refine wpAnyH_take (i := 7) (oi := { dst := some 38, op := Go.Op.call { callee := Go.Callee.builtin Go.Builtin.len, args := #[Go.Operand.tmp 37], argTypes := #[22] }, type := 3, pos := "scale.go:138", after := #[{ on := 6, ground := Go.Ground.data }, { on := 4, ground := Go.Ground.guard }], guard := some (4, false) }) (v := undef) rfl (by kernel_rfl) (by kernel_rfl) (by kernel_rfl) (fun _ _ _ h => h) (Or.inr ⟨by rfl, rfl⟩) (by assumption) ?_
        try simp only [Act.put, List.setIfInBounds_toArray, List.set_cons_zero, List.set_cons_succ]
        refine wpAnyH_take (i := 8) (oi := { dst := some 39, op := Go.Op.binOp Go.BinOp.lss 3 (Go.Operand.tmp 36) (Go.Operand.tmp 38) 3, type := 4, pos := "scale.go:138", after := #[{ on := 5, ground := Go.Ground.data }, { on := 7, ground := Go.Ground.data }, { on := 4, ground := Go.Ground.guard }], guard := some (4, false) }) (v := undef) rfl (by kernel_rfl) (by kernel_rfl) (by kernel_rfl) (fun _ _ _ h => h) (Or.inr ⟨by rfl, rfl⟩) (by assumption) ?_
        try simp only [Act.put, List.setIfInBounds_toArray, List.set_cons_zero, List.set_cons_succ]
        refine wpAnyH_take (i := 9) (oi := { dst := some 40, op := Go.Op.move (Go.Operand.tmp 39), type := 4, pos := "scale.go:138", after := #[{ on := 8, ground := Go.Ground.data }, { on := 4, ground := Go.Ground.chain }, { on := 4, ground := Go.Ground.guard }], guard := some (4, false) }) (v := undef) rfl (by kernel_rfl) (by kernel_rfl) (by kernel_rfl) (fun _ _ _ h => h) (Or.inr ⟨by rfl, rfl⟩) (by assumption) ?_
        try simp only [Act.put, List.setIfInBounds_toArray, List.set_cons_zero, List.set_cons_succ]
        refine wpAnyH_take (i := 10) (oi := { dst := some 41, op := Go.Op.move (Go.Operand.tmp 0), type := 22, pos := "scale.go:138", after := #[{ on := 9, ground := Go.Ground.guard }], guard := some (9, true) }) (v := undef) rfl (by kernel_rfl) (by kernel_rfl) (by kernel_rfl) (fun _ _ _ h => h) (Or.inr ⟨by rfl, rfl⟩) (by assumption) ?_
        try simp only [Act.put, List.setIfInBounds_toArray, List.set_cons_zero, List.set_cons_succ]
        refine wpAnyH_take (i := 11) (oi := { dst := some 42, op := Go.Op.move (Go.Operand.tmp 6), type := 3, pos := "scale.go:138", after := #[{ on := 9, ground := Go.Ground.guard }], guard := some (9, true) }) (v := undef) rfl (by kernel_rfl) (by kernel_rfl) (by kernel_rfl) (fun _ _ _ h => h) (Or.inr ⟨by rfl, rfl⟩) (by assumption) ?_
        try simp only [Act.put, List.setIfInBounds_toArray, List.set_cons_zero, List.set_cons_succ]
        refine wpAnyH_take (i := 12) (oi := { dst := some 43, op := Go.Op.indexAddr 22 (Go.Operand.tmp 41) (Go.Operand.tmp 42), type := 0, pos := "scale.go:138", after := #[{ on := 10, ground := Go.Ground.data }, { on := 11, ground := Go.Ground.data }, { on := 9, ground := Go.Ground.guard }], guard := some (9, true) }) (v := undef) rfl (by kernel_rfl) (by kernel_rfl) (by kernel_rfl) (fun _ _ _ h => h) (Or.inr ⟨by rfl, rfl⟩) (by assumption) ?_
        try simp only [Act.put, List.setIfInBounds_toArray, List.set_cons_zero, List.set_cons_succ]
        refine wpAnyH_take (i := 13) (oi := { dst := some 44, op := Go.Op.fieldAddr 31 (Go.Operand.tmp 43) 0, type := 0, pos := "scale.go:138", after := #[{ on := 12, ground := Go.Ground.data }, { on := 9, ground := Go.Ground.guard }], guard := some (9, true) }) (v := undef) rfl (by kernel_rfl) (by kernel_rfl) (by kernel_rfl) (fun _ _ _ h => h) (Or.inr ⟨by rfl, rfl⟩) (by assumption) ?_
        try simp only [Act.put, List.setIfInBounds_toArray, List.set_cons_zero, List.set_cons_succ]
        refine wpAnyH_take (i := 14) (oi := { dst := some 45, op := Go.Op.load 24 (Go.Operand.tmp 44), type := 24, pos := "scale.go:138", after := #[{ on := 13, ground := Go.Ground.data }, { on := 9, ground := Go.Ground.guard }], guard := some (9, true) }) (v := undef) rfl (by kernel_rfl) (by kernel_rfl) (by kernel_rfl) (fun _ _ _ h => h) (Or.inr ⟨by rfl, rfl⟩) (by assumption) ?_
        try simp only [Act.put, List.setIfInBounds_toArray, List.set_cons_zero, List.set_cons_succ]
        refine wpAnyH_take (i := 15) (oi := { dst := some 46, op := Go.Op.move (Go.Operand.tmp 1), type := 22, pos := "scale.go:138", after := #[{ on := 9, ground := Go.Ground.guard }], guard := some (9, true) }) (v := undef) rfl (by kernel_rfl) (by kernel_rfl) (by kernel_rfl) (fun _ _ _ h => h) (Or.inr ⟨by rfl, rfl⟩) (by assumption) ?_
        try simp only [Act.put, List.setIfInBounds_toArray, List.set_cons_zero, List.set_cons_succ]
        refine wpAnyH_take (i := 16) (oi := { dst := some 47, op := Go.Op.move (Go.Operand.tmp 7), type := 3, pos := "scale.go:138", after := #[{ on := 9, ground := Go.Ground.guard }], guard := some (9, true) }) (v := undef) rfl (by kernel_rfl) (by kernel_rfl) (by kernel_rfl) (fun _ _ _ h => h) (Or.inr ⟨by rfl, rfl⟩) (by assumption) ?_
        try simp only [Act.put, List.setIfInBounds_toArray, List.set_cons_zero, List.set_cons_succ]
        refine wpAnyH_take (i := 17) (oi := { dst := some 48, op := Go.Op.indexAddr 22 (Go.Operand.tmp 46) (Go.Operand.tmp 47), type := 0, pos := "scale.go:138", after := #[{ on := 15, ground := Go.Ground.data }, { on := 16, ground := Go.Ground.data }, { on := 9, ground := Go.Ground.guard }], guard := some (9, true) }) (v := undef) rfl (by kernel_rfl) (by kernel_rfl) (by kernel_rfl) (fun _ _ _ h => h) (Or.inr ⟨by rfl, rfl⟩) (by assumption) ?_
        try simp only [Act.put, List.setIfInBounds_toArray, List.set_cons_zero, List.set_cons_succ]
        refine wpAnyH_take (i := 18) (oi := { dst := some 49, op := Go.Op.fieldAddr 31 (Go.Operand.tmp 48) 0, type := 0, pos := "scale.go:138", after := #[{ on := 17, ground := Go.Ground.data }, { on := 9, ground := Go.Ground.guard }], guard := some (9, true) }) (v := undef) rfl (by kernel_rfl) (by kernel_rfl) (by kernel_rfl) (fun _ _ _ h => h) (Or.inr ⟨by rfl, rfl⟩) (by assumption) ?_
        try simp only [Act.put, List.setIfInBounds_toArray, List.set_cons_zero, List.set_cons_succ]
        refine wpAnyH_take (i := 19) (oi := { dst := some 50, op := Go.Op.load 24 (Go.Operand.tmp 49), type := 24, pos := "scale.go:138", after := #[{ on := 18, ground := Go.Ground.data }, { on := 9, ground := Go.Ground.guard }], guard := some (9, true) }) (v := undef) rfl (by kernel_rfl) (by kernel_rfl) (by kernel_rfl) (fun _ _ _ h => h) (Or.inr ⟨by rfl, rfl⟩) (by assumption) ?_
        try simp only [Act.put, List.setIfInBounds_toArray, List.set_cons_zero, List.set_cons_succ]
        refine wpAnyH_take (i := 20) (oi := { dst := some 51, op := Go.Op.call { callee := Go.Callee.value (Go.Operand.func 25), args := #[Go.Operand.tmp 45, Go.Operand.tmp 50], argTypes := #[24, 24] }, type := 3, pos := "scale.go:138", after := #[{ on := 14, ground := Go.Ground.data }, { on := 19, ground := Go.Ground.data }, { on := 9, ground := Go.Ground.chain }, { on := 9, ground := Go.Ground.guard }], guard := some (9, true) }) (v := undef) rfl (by kernel_rfl) (by kernel_rfl) (by kernel_rfl) (fun _ _ _ h => h) (Or.inr ⟨by rfl, rfl⟩) (by assumption) ?_
        try simp only [Act.put, List.setIfInBounds_toArray, List.set_cons_zero, List.set_cons_succ]
        refine wpAnyH_take (i := 21) (oi := { dst := some 52, op := Go.Op.binOp Go.BinOp.lss 3 (Go.Operand.tmp 51) (Go.Operand.const (Go.Value.int Go.IntKind.i64 0)) 3, type := 4, pos := "scale.go:138", after := #[{ on := 20, ground := Go.Ground.data }, { on := 9, ground := Go.Ground.guard }], guard := some (9, true) }) (v := undef) rfl (by kernel_rfl) (by kernel_rfl) (by kernel_rfl) (fun _ _ _ h => h) (Or.inr ⟨by rfl, rfl⟩) (by assumption) ?_
        try simp only [Act.put, List.setIfInBounds_toArray, List.set_cons_zero, List.set_cons_succ]
        refine wpAnyH_take (i := 22) (oi := { dst := some 53, op := Go.Op.pick (Go.Operand.tmp 40) (Go.Operand.tmp 52) (Go.Operand.const (Go.Value.bool false)), type := 4, pos := "scale.go:138", after := #[{ on := 9, ground := Go.Ground.data }, { on := 21, ground := Go.Ground.data }, { on := 4, ground := Go.Ground.guard }], guard := some (4, false) }) (v := undef) rfl (by kernel_rfl) (by kernel_rfl) (by kernel_rfl) (fun _ _ _ h => h) (Or.inr ⟨by rfl, rfl⟩) (by assumption) ?_
        try simp only [Act.put, List.setIfInBounds_toArray, List.set_cons_zero, List.set_cons_succ]
        refine wpAnyH_take (i := 23) (oi := { dst := some 54, op := Go.Op.pick (Go.Operand.tmp 35) (Go.Operand.const (Go.Value.bool true)) (Go.Operand.tmp 53), type := 4, pos := "scale.go:138", after := #[{ on := 4, ground := Go.Ground.data }, { on := 22, ground := Go.Ground.data }], guard := none }) (v := ?_) rfl (by kernel_rfl) (by kernel_rfl) (by kernel_rfl) (fun _ _ _ h => h) (Or.inl ⟨by rfl, ?_⟩) (by assumption) ?_
        rotate_left
        · intro wq hSw; (try dsimp only at hSw); go_simp; (try with_reducible rfl)
        try simp only [Act.put, List.setIfInBounds_toArray, List.set_cons_zero, List.set_cons_succ]
        refine wpAnyH_take (i := 24) (oi := { dst := some 30, op := Go.Op.assign (Go.Operand.tmp 54), type := 4, pos := "scale.go:138", after := #[{ on := 23, ground := Go.Ground.data }, { on := 20, ground := Go.Ground.chain }], guard := none }) (v := ?_) rfl (by kernel_rfl) (by kernel_rfl) (by kernel_rfl) (fun _ _ _ h => h) (Or.inl ⟨by rfl, ?_⟩) (by assumption) ?_
        rotate_left
        · intro wq hSw; (try dsimp only at hSw); go_simp; (try with_reducible rfl)
        try simp only [Act.put, List.setIfInBounds_toArray, List.set_cons_zero, List.set_cons_succ]
        refine wpAnyH_done (by kernel_rfl) ?_ _
        go_wp2_with (at_builtin; go_must (refine wpList_append_own _ rfl (.tmp 55) (.tmp 61) 39 rfl w.heap.size 24 inf1 _ 2 16 Tryd.underlying39 hi1 jf0 jf1 jf2 rfl (by decide) _ o.length _ rfl (own_below HO.out (by (repeat' (first | with_reducible exact Below.refl _ _ | with_reducible assumption | with_reducible refine Below.drew ?_ | with_reducible refine below_drewN ?_ _ | with_reducible refine Below.setCell ?_ ?_ _ | with_reducible refine Below.alloc ?_ ?_ _ | omega | (simp; done) | (simp; omega))))) ⟨wr.heap.size, 0, none⟩ 1 1 [.int .i64 a.1.num, .int .i64 a.1.den] rfl rfl (World.news_of_block (cs := #[.int .i64 a.1.num, .int .i64 a.1.den]) (blk_new (by simp))) (by simp [Value.oneCell']) (by unfold maxLen; omega) (by omega) (by simp; omega) ?_); intro v' w12 hown9 hgrow9 _)
        go_roundw
        case rel =>
          refine ⟨i + 1, ts.length, o ++ [a.1], by omega, by omega, by go_num, by go_num, by simp; omega, Lib.hid (hF.out.left HS.out Ha.out (fun b' h => by rw [List.getElem?_eq_none (Nat.le_refl _)] at h; cases h)), ?_, ?_⟩
          · show World.ownsRow _ _ _ _ _ _ _
            rw [List.map_append, List.flatMap_append]; simpa [encF, fq] using hown9
          · exact Below.grown (by (repeat' (first | with_reducible exact Below.refl _ _ | with_reducible assumption | with_reducible refine Below.drew ?_ | with_reducible refine below_drewN ?_ _ | with_reducible refine Below.setCell ?_ ?_ _ | with_reducible refine Below.alloc ?_ ?_ _ | omega | (simp; done) | (simp; omega)))) hgrow9 (by simp; omega) (fun g hg => (HO.out.lt g hg).1)
        case measure => simp [intOf]; omega
      · obtain rfl : i = gs.length := by omega
        go_wp2_with fail
        go_ret
        refine ⟨?_, by (repeat' (first | with_reducible exact Below.refl _ _ | with_reducible assumption | with_reducible refine Below.drew ?_ | with_reducible refine below_drewN ?_ _ | with_reducible refine Below.setCell ?_ ?_ _ | with_reducible refine Below.alloc ?_ ?_ _ | omega | (simp; done) | (simp; omega)))⟩
        have hO : Own encF 2 24 w.heap.size wr u5 (o.map fq) := by unfold Own; rw [List.length_map]; exact HO.out
        first | exact ⟨_, o, rfl, hF.out.done, hol, hO⟩ | exact ⟨_, rfl, o, hF.out.done, hol, hO⟩

end Go.Proofs.YtmankldedhgdiaaDoor
