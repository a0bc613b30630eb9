/- The document's sets: Spans, IsSpan, Norm: walks. -/
import Derived.Test.YtmodofbelpaelaaDoorLineU
import Derived.Test.YtmodofbelpaelaaDoorDayD
import Derived.Test.YtmodofbelpaelaaDoorDayQ
import Derived.Test.YtmodofbelpaelaaDoorLineV
import Derived.Deep.RegionHeldLaw
namespace Go.Proofs.YtmodofbelpaelaaDoor
section
open Go.RowKit

theorem encU_take (l : List (Pc Unit)) (k : Nat) : (l.flatMap encU).take (k * 2) = (l.take k).flatMap encU := by
  induction l generalizing k with
  | nil => simp
  | cons p r ih =>
    cases k with
    | zero => simp
    | succ k =>
      rw [List.take_succ_cons, List.flatMap_cons, List.flatMap_cons, ← ih k, show (k + 1) * 2 = (encU p).length + k * 2 by rw [encU_len]; omega, List.take_append, List.take_of_length_le (by omega)]
      congr 1
      rw [show (encU p).length + k * 2 - (encU p).length = k * 2 by omega]

set_option maxRecDepth 10000 in
set_option maxHeartbeats 4000000 in
theorem spansC_any (l : List (Pc Unit)) (n : Nat) (A : Option Addr) (c : Nat) (w : World) (h : l.length = n) (hl : RowAt encU 2 w w.heap.size A l) (hn : n ≤ 1000000) :
    Calls Tryd.prog 45 #[.slice A n c] w fun e w' => ∃ v, e = .returned v ∧ Own encU 2 91 w.heap.size w' v l ∧ Below w.heap.size w w' := by
  subst h
  obtain ⟨inf0, hi, jz0, jz1, jz2⟩ := info_parts infoSp
  have HL := Lib.hid hl
  clear hl
  go_enter Tryd.func45, Tryd.ntmps45
  go_wp2_with (at_make; go_must (refine wpList_make_own _ rfl _ _ 59 rfl w.heap.size 91 inf0 _ 2 Tryd.underlying59 hi jz0 jz1 .i64 .i64 _ l.length rfl rfl rfl (by rw [jz2]; omega) (by unfold maxLen; omega) (Nat.le_refl _) ?_); intro w0 hown0 hgrow0)
  have hb0 : Below w.heap.size w w0 := (Below.refl _ _).grown hgrow0 (Nat.le_refl _) (fun k h => by cases h)
  go_loopw [3, 4] (fun v i wr => ∃ k : Nat, k ≤ l.length ∧ i = .int .i64 k ∧ wr.ownsRow w.heap.size 91 2 v k ((l.take k).flatMap encU) ∧ Below w.heap.size w wr) (fun _ i _ => l.length - (intOf i).toNat)
  case atStart => exact ⟨0, Nat.zero_le _, rfl, hown0, hb0⟩
  case round =>
    obtain ⟨k, hk, rfl, hown, hb⟩ := hrel
    have hz := hb.size
    by_cases hlt : k < l.length
    · obtain ⟨p, hp⟩ : ∃ p, l[k]? = some p := ⟨l[k], List.getElem?_eq_getElem hlt⟩
      obtain ⟨g, off, rfl, hg, k0, k1⟩ := cells2 (HL.out.below hb (Nat.le_refl _)) hp
      have HX := Lib.hid hp
      clear hp
      go_wp2_with (at_builtin; go_must (refine wpList_append_own _ rfl (.tmp 14) (.tmp 19) 59 rfl w.heap.size 91 inf0 _ 2 16 Tryd.underlying59 hi jz0 jz1 jz2 rfl (by decide) _ k _ rfl (hown.alloc _) ⟨wr.heap.size, 0, none⟩ 1 1 [.int .i64 p.f, .int .i64 p.t] rfl rfl (World.news_of_block (cs := #[.int .i64 p.f, .int .i64 p.t]) (blk_new rfl)) (by simp [Value.oneCell']) (by unfold maxLen; omega) (by omega) (by simp; omega) ?_); intro v' w1 hown' hgrow _)
      go_roundw
      case rel =>
        refine ⟨k + 1, by omega, by go_num, ?_, (Below.alloc hb hz _).grown hgrow (by simp; omega) (fun g hg => (hown.lt g hg).1)⟩
        rw [take_snoc HX.out, List.flatMap_append]; simpa [encU] using hown'
      case measure => simp [intOf]; omega
    · obtain rfl : k = l.length := by omega
      go_wp2
      go_ret
      exact ⟨_, rfl, by unfold Own; simpa using hown, hb⟩

set_option maxRecDepth 10000 in
set_option maxHeartbeats 1000000 in
theorem isSpan_any (f t : Int) (w : World) : Calls Tryd.prog 76 #[.agg #[.int .i64 f, .int .i64 t]] w fun e w' => e = .returned (.bool (decide (0 ≤ f ∧ f < t ∧ t ≤ MD))) ∧ Below w.heap.size w w' := by
  by_cases h1 : 0 ≤ f
  · have e1 : decide (0 ≤ f) = true := decide_eq_true h1
    by_cases h2 : f < t
    · have e2 : decide (f < t) = true := decide_eq_true h2
      by_cases h3 : t ≤ MD
      · have e3 : decide (t ≤ 3652059) = true := decide_eq_true h3
        rw [decide_eq_true (show 0 ≤ f ∧ f < t ∧ t ≤ MD from ⟨h1, h2, h3⟩)]
        clear h1 h2 h3
        go_enter Tryd.func76, Tryd.ntmps76
        go_wp2_with fail
        go_ret
        exact ⟨rfl, by (repeat' (first | with_reducible exact Below.refl _ _ | with_reducible assumption | with_reducible refine Below.drew ?_ | with_reducible refine below_drewN ?_ _ | with_reducible refine Below.setCell ?_ ?_ _ | with_reducible refine Below.alloc ?_ ?_ _ | omega | (simp; done) | (simp; omega)))⟩
      · have e3 : decide (t ≤ 3652059) = false := decide_eq_false h3
        rw [decide_eq_false (show ¬ (0 ≤ f ∧ f < t ∧ t ≤ MD) from fun h => h3 h.2.2)]
        clear h1 h2 h3
        go_enter Tryd.func76, Tryd.ntmps76
        go_wp2_with fail
        go_ret
        exact ⟨rfl, by (repeat' (first | with_reducible exact Below.refl _ _ | with_reducible assumption | with_reducible refine Below.drew ?_ | with_reducible refine below_drewN ?_ _ | with_reducible refine Below.setCell ?_ ?_ _ | with_reducible refine Below.alloc ?_ ?_ _ | omega | (simp; done) | (simp; omega)))⟩
    · have e2 : decide (f < t) = false := decide_eq_false h2
      rw [decide_eq_false (show ¬ (0 ≤ f ∧ f < t ∧ t ≤ MD) from fun h => h2 h.2.1)]
      clear h1 h2
      go_enter Tryd.func76, Tryd.ntmps76
      go_wp2_with fail
      go_ret
      exact ⟨rfl, by (repeat' (first | with_reducible exact Below.refl _ _ | with_reducible assumption | with_reducible refine Below.drew ?_ | with_reducible refine below_drewN ?_ _ | with_reducible refine Below.setCell ?_ ?_ _ | with_reducible refine Below.alloc ?_ ?_ _ | omega | (simp; done) | (simp; omega)))⟩
  · have e1 : decide (0 ≤ f) = false := decide_eq_false h1
    rw [decide_eq_false (show ¬ (0 ≤ f ∧ f < t ∧ t ≤ MD) from fun h => h1 h.1)]
    clear h1
    go_enter Tryd.func76, Tryd.ntmps76
    go_wp2_with fail
    go_ret
    exact ⟨rfl, by (repeat' (first | with_reducible exact Below.refl _ _ | with_reducible assumption | with_reducible refine Below.drew ?_ | with_reducible refine below_drewN ?_ _ | with_reducible refine Below.setCell ?_ ?_ _ | with_reducible refine Below.alloc ?_ ?_ _ | omega | (simp; done) | (simp; omega)))⟩

set_option maxRecDepth 10000 in
set_option maxHeartbeats 2000000 in
theorem spansAre_any (l : List (Pc Unit)) (A : Option Addr) (c : Nat) (w : World) (hl : RowAt encU 2 w w.heap.size A l) (hm : l.length ≤ 1000000) :
    Calls Tryd.prog 31 #[.slice A l.length c] w fun e w' => (∃ b, e = .returned (.bool b) ∧ (b = true ↔ ∀ p ∈ l, ValidS MD p)) ∧ Below w.heap.size w w' := by
  have HL := Lib.hid hl
  clear hl
  go_enter Tryd.func31, Tryd.ntmps31
  go_wp2_with fail
  go_loopw [3] (fun i wr => ∃ k : Nat, k ≤ l.length ∧ i = .int .i64 k ∧ Hid (∀ (j : Nat) p, l[j]? = some p → j < k → ValidS MD p) ∧ Below w.heap.size w wr) (fun i _ => l.length - (intOf i).toNat)
  case atStart => exact ⟨0, Nat.zero_le _, rfl, Lib.hid (fun j p _ h => by omega), Below.refl _ _⟩
  case round =>
    obtain ⟨k, hk, rfl, HK, hb⟩ := hrel
    have hz := hb.size
    by_cases hlt : k < l.length
    · obtain ⟨p, hp⟩ : ∃ p, l[k]? = some p := ⟨l[k], List.getElem?_eq_getElem hlt⟩
      obtain ⟨g, off, rfl, hg, k0, k1⟩ := cells2 (HL.out.below hb (Nat.le_refl _)) hp
      have HX := Lib.hid hp
      clear hp
      by_cases hv : ValidS MD p
      · have e1 : decide (0 ≤ p.f ∧ p.f < p.t ∧ p.t ≤ MD) = true := decide_eq_true hv
        have HV := Lib.hid hv
        clear hv
        go_wp2_with fail
        refine (isSpan_any p.f p.t _).mono ?_
        rintro e w1 ⟨rfl, hb1⟩
        rw [e1]
        go_wp2_with fail
        go_roundw
        case rel =>
          refine ⟨k + 1, by omega, by go_num, Lib.hid (fun j q hq hj => ?_), stepH hb hb1⟩
          rcases Nat.lt_or_ge j k with h | h
          · exact HK.out j q hq h
          · obtain rfl : j = k := by omega
            rw [HX.out] at hq; cases hq; exact HV.out
        case measure => simp [intOf]; omega
      · have e1 : decide (0 ≤ p.f ∧ p.f < p.t ∧ p.t ≤ MD) = false := decide_eq_false hv
        have HV := Lib.hid hv
        clear hv
        go_wp2_with fail
        refine (isSpan_any p.f p.t _).mono ?_
        rintro e w1 ⟨rfl, hb1⟩
        rw [e1]
        go_wp2_with fail
        go_ret
        exact ⟨⟨false, rfl, ⟨fun h => (by cases h), fun h => absurd (h p (List.mem_of_getElem? HX.out)) HV.out⟩⟩, stepH hb hb1⟩
    · obtain rfl : k = l.length := by omega
      go_wp2_with fail
      go_ret
      exact ⟨⟨true, rfl, ⟨fun _ p hp => by
        obtain ⟨j, hj, e⟩ := List.mem_iff_getElem.1 hp
        exact HK.out j p (by rw [List.getElem?_eq_getElem hj, e]) hj, fun _ => rfl⟩⟩, hb⟩
end

section
open Go.RowKit

/-- a span put behind those that do not begin later -/
theorem ins_pair {s : List (Pc Unit)} {p : Pc Unit} {k : Nat} (hk : k ≤ s.length) (hs : s.Pairwise (fun a b => a.f ≤ b.f)) (hlo : ∀ (j : Nat) x, s[j]? = some x → j < k → x.f ≤ p.f) (hhi : ∀ x, s[k]? = some x → p.f < x.f) : (s.take k ++ [p] ++ s.drop k).Pairwise (fun a b => a.f ≤ b.f) := by
  rw [List.append_assoc, List.pairwise_append]
  refine ⟨hs.sublist (List.take_sublist ..), ?_, fun a ha b hb => ?_⟩
  · rw [List.cons_append, List.nil_append, List.pairwise_cons]
    refine ⟨fun b hb => ?_, hs.sublist (List.drop_sublist ..)⟩
    obtain ⟨j, hj, e⟩ := List.mem_iff_getElem.1 hb
    rw [List.getElem_drop] at e
    rw [List.length_drop] at hj
    have h0 := hhi s[k] (List.getElem?_eq_getElem (by omega))
    by_cases hj0 : j = 0
    · subst hj0; simp only [Nat.add_zero] at e; rw [← e]; omega
    · have h1 := List.pairwise_iff_getElem.1 hs k (k + j) (by omega) (by omega) (by omega)
      rw [e] at h1; omega
  · obtain ⟨j, hj, e⟩ := List.mem_iff_getElem.1 ha
    rw [List.length_take] at hj
    rw [List.getElem_take] at e
    have h0 : a.f ≤ p.f := hlo j a (by rw [List.getElem?_eq_getElem (by omega), e]) (by omega)
    rcases List.mem_cons.1 (by simpa using hb : b ∈ p :: s.drop k) with rfl | hb
    · exact h0
    · obtain ⟨i, hi, e2⟩ := List.mem_iff_getElem.1 hb
      rw [List.getElem_drop] at e2
      rw [List.length_drop] at hi
      have h1 := List.pairwise_iff_getElem.1 hs j (k + i) (by omega) (by omega) (by omega)
      rw [e, e2] at h1; exact h1
theorem ins_perm {s l : List (Pc Unit)} {p : Pc Unit} {k i : Nat} (h : s.Perm (l.take i)) (hp : l[i]? = some p) : (s.take k ++ [p] ++ s.drop k).Perm (l.take (i + 1)) := by
  rw [take_snoc hp]
  have h1 : (s.take k ++ [p] ++ s.drop k).Perm (s.take k ++ s.drop k ++ [p]) := by
    rw [List.append_assoc, List.append_assoc]
    exact List.Perm.append_left _ List.perm_append_comm
  rw [List.take_append_drop] at h1
  exact h1.trans (h.append_right _)

theorem far_rowD {w9 w1 : World} {o : Obj} {row : Option Nat} {A : Option Addr} {xs : List Value} (hgrow : (w9.alloc o).drew.grownBy w1 row) (hlt : ∀ a, A = some a → a.block < w9.heap.size ∧ some a.block ≠ row) (h : ∀ ad, A = some ad → ∀ j u, xs[j]? = some u → w9.cell? (ad.add j) = some u) : ∀ ad, A = some ad → ∀ j u, xs[j]? = some u → w1.cell? (ad.add j) = some u := fun ad ha j u hj => by
  obtain ⟨h1, h2⟩ := hlt ad ha
  have e : (ad.add j).block = ad.block := by unfold Addr.add; split <;> rfl
  exact (World.grownBy.cell_far hgrow (ad.add j) (by rw [e]; simp; omega) (by rw [e]; exact h2)).trans (cell_drew (cell_alloc (h ad ha j u hj)))

set_option maxRecDepth 10000 in
set_option maxHeartbeats 8000000 in
theorem normS_any (l : List (Pc Unit)) (A : Option Addr) (c : Nat) (w : World) (hl : RowAt encU 2 w w.heap.size A l) (hm : l.length ≤ 100000) (hv : ∀ p ∈ l, ValidS MD p) :
    Calls Tryd.prog 37 #[.slice A l.length c] w fun e w' => (∃ A' c' r, e = .returned (.slice A' r.length c') ∧ RowAt encU 2 w' w'.heap.size A' r ∧ (A' = none → c' = 0) ∧ (∀ a, A' = some a → w.heap.size ≤ a.block) ∧ SetOf MD l r) ∧ Below w.heap.size w w' := by
  obtain ⟨inf0, hi, jz0, jz1, jz2⟩ := info_parts infoSp
  have HL := Lib.hid hl
  have HV := Lib.hid hv
  clear hl hv
  go_enter Tryd.func37, Tryd.ntmps37
  go_wp2_with fail
  go_loopw [3, 4] (fun v i wr => ∃ (k : Nat) (s : List (Pc Unit)), k ≤ l.length ∧ i = .int .i64 k ∧ Own encU 2 91 w.heap.size wr v s ∧ Hid (s.Perm (l.take k) ∧ s.Pairwise (fun a b => a.f ≤ b.f)) ∧ Below w.heap.size w wr) (fun _ i _ => l.length - (intOf i).toNat)
  case atStart => exact ⟨0, [], Nat.zero_le _, rfl, Own.nil, Lib.hid ⟨by simp, List.Pairwise.nil⟩, Below.refl _ _⟩
  case round =>
    obtain ⟨k, s, hk, rfl, hown, HS, hb⟩ := hrel
    obtain ⟨w1, rfl⟩ : ∃ x : World, x = wr := ⟨_, rfl⟩
    have hz := hb.size
    have HO := Lib.hid hown
    by_cases hlt : k < l.length
    · obtain ⟨p, hp⟩ : ∃ p, l[k]? = some p := ⟨l[k], List.getElem?_eq_getElem hlt⟩
      obtain ⟨g, off, rfl, hg, k0, k1⟩ := cells2 (HL.out.below hb (Nat.le_refl _)) hp
      have hgw : g < w.heap.size := by obtain ⟨_, _, e, h, _⟩ := HL.out k p hp; cases e; exact h
      have HX := Lib.hid hp
      have hsl : s.length = k := by have h := HS.out.1.length_eq; rw [List.length_take] at h; omega
      have hlt2 : (k : Int) < (l.length : Int) := by omega
      have K0 := Lib.hid k0
      have K1 := Lib.hid k1
      obtain ⟨A2, c2, rfl, hkc, _, hr2⟩ := Own.rows (fun x _ => encU_len x) hown
      rw [hsl] at hkc
      have HOR : Hid (w1.ownsRow w.heap.size 91 2 (.slice A2 k c2) k (s.flatMap encU)) := by
        have h := HO.out
        unfold Own at h
        rw [hsl] at h
        exact h
      rw [hsl]
      have HR2 := Lib.hid hr2
      clear hp hown hr2 k0 k1 HO
      go_wp2_with fail
      go_loopw [5] (fun i w2 => ∃ j : Nat, j ≤ k ∧ i = .int .i64 j ∧ Hid (∀ (i : Nat) x, s[i]? = some x → i < j → x.f ≤ p.f) ∧ Below w1.heap.size w1 w2) (fun i _ => k - (intOf i).toNat)
      case atStart => exact ⟨0, Nat.zero_le _, rfl, Lib.hid (fun i x _ h => by omega), Below.refl _ _⟩
      case round =>
        obtain ⟨j, hj, rfl, HJ, hb2⟩ := hrel
        have hw2 : Below w.heap.size w wr := stepH hb hb2
        have z2 := hw2.size
        have y2 := hb2.size
        obtain ⟨_, _, e2, _, k0, k1⟩ := cells2 (l := [p]) (k := 0) (A := some ⟨g, off + k * 2, none⟩) (w := wr) (B := wr.heap.size) (fun i x hx => by
          obtain rfl : i = 0 := by
            rcases Nat.eq_zero_or_pos i with h | h
            · exact h
            · rw [List.getElem?_eq_none (by simp only [List.length_cons, List.length_nil]; omega)] at hx; cases hx
          cases hx
          refine ⟨g, off + k * 2, rfl, by omega, fun j u hu => ?_⟩
          have hlt : g < w1.heap.size := by omega
          rcases j with _ | _ | j
          · cases hu; simpa using (cellOf hb2 K0.out)
          · cases hu; simpa using (cellOf hb2 K1.out)
          · simp [encU] at hu) rfl
        cases e2
        simp only [Nat.zero_mul, Nat.add_zero] at k0 k1
        by_cases hj2 : j < k
        · obtain ⟨x, hx⟩ : ∃ x, s[j]? = some x := ⟨s[j], List.getElem?_eq_getElem (by omega)⟩
          obtain ⟨g2, o2, rfl, hg2, j0, j1⟩ := cells2 (HR2.out.below hb2 (Nat.le_refl _)) hx
          have hlt3 : (j : Int) < (k : Int) := by omega
          have hcj : ¬ c2 = j := by omega
          have HX2 := Lib.hid hx
          clear hx
          by_cases hxp : x.f ≤ p.f
          · have e1 : decide (x.f ≤ p.f) = true := decide_eq_true hxp
            go_wp2_with fail
            go_quiet (fail)
            go_wp2_with fail
            go_roundw
            case rel =>
              refine ⟨j + 1, by omega, by go_num, Lib.hid (fun i y hi hlt => ?_), by (repeat' (first | with_reducible exact Below.refl _ _ | with_reducible assumption | with_reducible refine Below.drew ?_ | with_reducible refine below_drewN ?_ _ | with_reducible refine Below.setCell ?_ ?_ _ | with_reducible refine Below.alloc ?_ ?_ _ | omega | (simp; done) | (simp; omega)))⟩
              rcases Nat.lt_or_ge i j with h | h
              · exact HJ.out i y hi h
              · obtain rfl : i = j := by omega
                rw [HX2.out] at hi; cases hi; exact hxp
            case measure => simp [intOf]; omega
          · have e1 : decide (x.f ≤ p.f) = false := decide_eq_false hxp
            have HNX := Lib.hid hxp
            clear hxp
            go_wp2_with fail
            go_quiet (fail)
            go_wp2_with fail
            obtain rfl : o2 = 0 := by
              rcases HOR.out.2 with ⟨h, _⟩ | ⟨g', cp, cur, h, _⟩
              · cases h
              · cases h; rfl
            have hrk : RowAt encU 2 (wr.drewN nq) (wr.drewN nq).heap.size (some ⟨g2, 0 + j * 2, none⟩) (s.drop j) := by
              intro i y hy
              rw [List.getElem?_drop] at hy
              obtain ⟨b', off', e, hb', hcc⟩ := (HR2.out.below (w' := wr.drewN nq) (by (repeat' (first | with_reducible exact Below.refl _ _ | with_reducible assumption | with_reducible refine Below.drew ?_ | with_reducible refine below_drewN ?_ _ | with_reducible refine Below.setCell ?_ ?_ _ | with_reducible refine Below.alloc ?_ ?_ _ | omega | (simp; done) | (simp; omega)))) (Nat.le_refl _)) (j + i) y hy
              cases e
              exact ⟨g2, 0 + j * 2, rfl, by simp; omega, fun i' u hu => by rw [show 0 + j * 2 + i * 2 + i' = 0 + (j + i) * 2 + i' by omega]; exact hcc i' u hu⟩
            have hrowk : RowAt encU 2 _ _ (some ⟨g2, 0 + j * 2, none⟩) (s.drop j) := hrk
            refine (spansC_any (s.drop j) (k - j) (some ⟨g2, 0 + j * 2, none⟩) (c2 - j) _ (by rw [List.length_drop, hsl]) hrowk (by omega)).mono ?_
            rintro e w9 ⟨v9, rfl, hown9, hb9⟩
            have hb19 : Below w1.heap.size w1 w9 := stepH (by (repeat' (first | with_reducible exact Below.refl _ _ | with_reducible assumption | with_reducible refine Below.drew ?_ | with_reducible refine below_drewN ?_ _ | with_reducible refine Below.setCell ?_ ?_ _ | with_reducible refine Below.alloc ?_ ?_ _ | omega | (simp; done) | (simp; omega)))) hb9
            have hw9 : Below w.heap.size w w9 := stepH hb hb19
            have z9 := hw9.size
            have y9 := hb19.size
            have hpre := own_below (own_take HOR.out (show j ≤ k by omega)) hb19
            rw [encU_take] at hpre
            have HPRE := Lib.hid hpre
            obtain ⟨A9, c9, rfl, hr9, hA9, hf9⟩ := own_line (fun x _ => encU_len x) hown9
            have hlen9 : (s.drop j).length = k - j := by rw [List.length_drop, hsl]
            have HF9 := Lib.hid (rowFlat encU_len (by decide) hr9)
            have HN9 := Lib.hid (encU_flat (s.drop j))
            have H19 := Lib.hid (encU_one (s.drop j))
            have HNA : A9 = none → k - j = 0 ∧ c9 = 0 := fun h => ⟨by
              subst h
              cases hd : s.drop j with
              | nil => rw [hd] at hlen9; exact hlen9.symm
              | cons x r => obtain ⟨_, _, e, _⟩ := hr9 0 x (by rw [hd]; rfl); exact absurd e (by simp), hA9 h⟩
            have hlt9 : ∀ a, A9 = some a → a.block < w9.heap.size := fun a ha => by
              subst ha
              rcases hown9.2 with ⟨h, _⟩ | ⟨g', cp, cur, h, _, h5, _⟩
              · cases h
              · cases h; exact (Array.getElem?_eq_some_iff.1 h5).1
            have HB9 := Lib.hid (fun a (ha : A9 = some a) => And.intro (hlt9 a ha) (show some a.block ≠ (Value.slice (some ⟨g2, 0, none⟩) j c2).ownBlock from fun e => by
              have h1 := hf9 a ha
              have h2 := (HOR.out.lt g2 (by simp [Value.ownBlock])).2
              simp [Value.ownBlock] at e; simp at h1; omega))
            have q0 := cellOf hb19 K0.out
            have q1 := cellOf hb19 K1.out
            rw [hlen9] at HN9 ⊢
            clear hown9 hr9 hpre hb9 k0 k1 hb2 hw2 hlt9 hrk hrowk
            go_wp2_with fail
            go_region_held_law (fun w' => w'.cell? ⟨g, off + k * 2, none⟩ = some (.int .i64 p.f) ∧ w'.cell? ⟨g, off + k * 2 + 1, none⟩ = some (.int .i64 p.t)) (first | with_reducible exact ⟨q0, q1⟩ | go_keep | exact ⟨cell_alloc q0, cell_alloc q1⟩ | exact ⟨r0, r1⟩)
              (first
               | (refine step_append_any (by rfl) (.tmp 41) (.tmp 46) 59 (by rfl) w.heap.size 91 inf0 _ 2 16 Tryd.underlying59 hi jz0 jz1 jz2 rfl (by decide) _ j _ (by rfl) ((HPRE.out.alloc _).drew) (some ⟨w9.heap.size, 0, none⟩) 1 1 [.int .i64 p.f, .int .i64 p.t] (by rfl) rfl (fun ad ha j u hj => by cases ha; exact cell_drew (World.news_of_block (cs := #[.int .i64 p.f, .int .i64 p.t]) (blk_new rfl) j u hj)) (fun h => by cases h) (by simp [Value.oneCell']) (by unfold maxLen; omega) (by omega) (by simp; omega) ?_; intro v1 w10 hown1 hgrow1; have hz1 := hgrow1.size; have hfar := Lib.hid (far_rowD hgrow1 HB9.out HF9.out); have r0 := (World.grownBy.cell_far hgrow1 ⟨g, off + k * 2, none⟩ (by simp; omega) (fun e => by have h9 := (HPRE.out.lt _ e.symm).1; dsimp only at h9; omega)).trans (cell_drew (cell_alloc q0)); have r1 := (World.grownBy.cell_far hgrow1 ⟨g, off + k * 2 + 1, none⟩ (by simp; omega) (fun e => by have h9 := (HPRE.out.lt _ e.symm).1; dsimp only at h9; omega)).trans (cell_drew (cell_alloc q1)))
               | (refine step_append_any (by rfl) (.tmp 47) (.tmp 48) 59 (by rfl) w.heap.size 91 inf0 _ 2 16 Tryd.underlying59 hi jz0 jz1 jz2 rfl (by decide) _ (j + 1) _ (by rfl) hown1 A9 (k - j) c9 ((s.drop j).flatMap encU) (by rfl) HN9.out hfar.out HNA H19.out (by unfold maxLen; omega) (by omega) (by simp at hz1; omega) ?_; intro v2 w11 hown2 hgrow2; replace r0 := (World.grownBy.cell_far hgrow2 ⟨g, off + k * 2, none⟩ (by simp at hz1 ⊢; omega) (fun e => by have h9 := (hown1.lt _ e.symm).1; dsimp only at h9; omega)).trans r0; replace r1 := (World.grownBy.cell_far hgrow2 ⟨g, off + k * 2 + 1, none⟩ (by simp at hz1 ⊢; omega) (fun e => by have h9 := (hown1.lt _ e.symm).1; dsimp only at h9; omega)).trans r1))
            all_goals
              go_wp2_with fail
              go_roundw
              case rel =>
                refine ⟨k + 1, s.take j ++ [p] ++ s.drop j, by omega, by go_num, ?_, Lib.hid ⟨ins_perm HS.out.1 HX.out, ins_pair (by omega) HS.out.2 HJ.out ?_⟩, ?_⟩
                · unfold Own
                  rw [show (s.take j ++ [p] ++ s.drop j).length = j + 1 + (k - j) by simp only [List.length_append, List.length_take, List.length_drop, List.length_cons, List.length_nil, hsl]; omega, List.flatMap_append, List.flatMap_append]
                  simpa [encU] using hown2
                · exact fun y hy => by rw [HX2.out] at hy; cases hy; have := HNX.out; omega
                · have hb1 : Below w.heap.size w w10 := Below.grown (w := (w9.alloc (.cells #[.int .i64 p.f, .int .i64 p.t] 91)).drew) (by (repeat' (first | with_reducible exact Below.refl _ _ | with_reducible assumption | with_reducible refine Below.drew ?_ | with_reducible refine below_drewN ?_ _ | with_reducible refine Below.setCell ?_ ?_ _ | with_reducible refine Below.alloc ?_ ?_ _ | omega | (simp; done) | (simp; omega)))) hgrow1 (by simp; omega) (fun g hg => (HPRE.out.lt g hg).1)
                  exact Below.grown hb1 hgrow2 (by simp at hz1; omega) (fun g hg => (hown1.lt g hg).1)
              case measure => simp [intOf]; omega
        · obtain rfl : k = j := by omega
          by_cases hck : c2 = k
          · subst hck
            go_wp2_with fail
            go_quiet (fail)
            go_wp2_with fail
            refine (spansC_any [] 0 _ _ _ rfl RowAt.nil (by omega)).mono ?_
            rintro e w9 ⟨v9, rfl, hown9, hb9⟩
            have hb19 : Below w1.heap.size w1 w9 := stepH (by (repeat' (first | with_reducible exact Below.refl _ _ | with_reducible assumption | with_reducible refine Below.drew ?_ | with_reducible refine below_drewN ?_ _ | with_reducible refine Below.setCell ?_ ?_ _ | with_reducible refine Below.alloc ?_ ?_ _ | omega | (simp; done) | (simp; omega)))) hb9
            have hw9 : Below w.heap.size w w9 := stepH hb hb19
            have z9 := hw9.size
            have y9 := hb19.size
            have HPRE := Lib.hid (own_below HOR.out hb19)
            obtain ⟨A9, c9, rfl, hr9, hA9, hf9⟩ := own_line (fun x _ => encU_len x) hown9
            have HA9 := Lib.hid hA9
            have q0 := cellOf hb19 K0.out
            have q1 := cellOf hb19 K1.out
            rw [List.length_nil]
            clear hown9 hr9 hb9 k0 k1 hb2 hw2 hA9 hf9
            go_wp2_with fail
            go_region_held_law (fun w' => w'.cell? ⟨g, off + c2 * 2, none⟩ = some (.int .i64 p.f) ∧ w'.cell? ⟨g, off + c2 * 2 + 1, none⟩ = some (.int .i64 p.t)) (first | with_reducible exact ⟨q0, q1⟩ | go_keep | exact ⟨cell_alloc q0, cell_alloc q1⟩ | exact ⟨r0, r1⟩)
              (first
               | (refine step_append_any (by rfl) (.tmp 41) (.tmp 46) 59 (by rfl) w.heap.size 91 inf0 _ 2 16 Tryd.underlying59 hi jz0 jz1 jz2 rfl (by decide) _ c2 _ (by rfl) ((HPRE.out.alloc _).drew) (some ⟨w9.heap.size, 0, none⟩) 1 1 [.int .i64 p.f, .int .i64 p.t] (by rfl) rfl (fun ad ha j u hj => by cases ha; exact cell_drew (World.news_of_block (cs := #[.int .i64 p.f, .int .i64 p.t]) (blk_new rfl) j u hj)) (fun h => by cases h) (by simp [Value.oneCell']) (by unfold maxLen; omega) (by omega) (by simp; omega) ?_; intro v1 w10 hown1 hgrow1; have hz1 := hgrow1.size; have r0 := (World.grownBy.cell_far hgrow1 ⟨g, off + c2 * 2, none⟩ (by simp; omega) (fun e => by have h9 := (HPRE.out.lt _ e.symm).1; dsimp only at h9; omega)).trans (cell_drew (cell_alloc q0)); have r1 := (World.grownBy.cell_far hgrow1 ⟨g, off + c2 * 2 + 1, none⟩ (by simp; omega) (fun e => by have h9 := (HPRE.out.lt _ e.symm).1; dsimp only at h9; omega)).trans (cell_drew (cell_alloc q1)))
               | (refine step_append_any (by rfl) (.tmp 47) (.tmp 48) 59 (by rfl) w.heap.size 91 inf0 _ 2 16 Tryd.underlying59 hi jz0 jz1 jz2 rfl (by decide) _ (c2 + 1) _ (by rfl) hown1 A9 0 c9 [] (by rfl) rfl (fun _ _ j u h => by simp at h) (fun h => ⟨rfl, HA9.out h⟩) (fun u h => by simp at h) (by unfold maxLen; omega) (by omega) (by simp at hz1; omega) ?_; intro v2 w11 hown2 hgrow2; replace r0 := (World.grownBy.cell_far hgrow2 ⟨g, off + c2 * 2, none⟩ (by simp at hz1 ⊢; omega) (fun e => by have h9 := (hown1.lt _ e.symm).1; dsimp only at h9; omega)).trans r0; replace r1 := (World.grownBy.cell_far hgrow2 ⟨g, off + c2 * 2 + 1, none⟩ (by simp at hz1 ⊢; omega) (fun e => by have h9 := (hown1.lt _ e.symm).1; dsimp only at h9; omega)).trans r1))
            all_goals
              go_wp2_with fail
              go_roundw
              case rel =>
                refine ⟨c2 + 1, s.take c2 ++ [p] ++ s.drop c2, by omega, by go_num, ?_, Lib.hid ⟨ins_perm HS.out.1 HX.out, ins_pair (by omega) HS.out.2 HJ.out (fun y hy => by rw [List.getElem?_eq_none (by omega)] at hy; cases hy)⟩, ?_⟩
                · unfold Own
                  rw [List.take_of_length_le (by omega), List.drop_of_length_le (by omega), List.append_nil, show (s ++ [p]).length = c2 + 1 by simp [hsl], List.flatMap_append]
                  simpa [encU] using hown2
                · have hb1 : Below w.heap.size w w10 := Below.grown (w := (w9.alloc (.cells #[.int .i64 p.f, .int .i64 p.t] 91)).drew) (by (repeat' (first | with_reducible exact Below.refl _ _ | with_reducible assumption | with_reducible refine Below.drew ?_ | with_reducible refine below_drewN ?_ _ | with_reducible refine Below.setCell ?_ ?_ _ | with_reducible refine Below.alloc ?_ ?_ _ | omega | (simp; done) | (simp; omega)))) hgrow1 (by simp; omega) (fun g hg => (HPRE.out.lt g hg).1)
                  exact Below.grown hb1 hgrow2 (by simp at hz1; omega) (fun g hg => (hown1.lt g hg).1)
              case measure => simp [intOf]; omega
          · go_wp2_with fail
            go_quiet (fail)
            go_wp2_with fail
            refine (spansC_any [] 0 _ _ _ rfl RowAt.nil (by omega)).mono ?_
            rintro e w9 ⟨v9, rfl, hown9, hb9⟩
            have hb19 : Below w1.heap.size w1 w9 := stepH (by (repeat' (first | with_reducible exact Below.refl _ _ | with_reducible assumption | with_reducible refine Below.drew ?_ | with_reducible refine below_drewN ?_ _ | with_reducible refine Below.setCell ?_ ?_ _ | with_reducible refine Below.alloc ?_ ?_ _ | omega | (simp; done) | (simp; omega)))) hb9
            have hw9 : Below w.heap.size w w9 := stepH hb hb19
            have z9 := hw9.size
            have y9 := hb19.size
            have HPRE := Lib.hid (own_below HOR.out hb19)
            obtain ⟨A9, c9, rfl, hr9, hA9, hf9⟩ := own_line (fun x _ => encU_len x) hown9
            have HA9 := Lib.hid hA9
            have q0 := cellOf hb19 K0.out
            have q1 := cellOf hb19 K1.out
            rw [List.length_nil]
            clear hown9 hr9 hb9 k0 k1 hb2 hw2 hA9 hf9
            go_wp2_with fail
            go_region_held_law (fun w' => w'.cell? ⟨g, off + k * 2, none⟩ = some (.int .i64 p.f) ∧ w'.cell? ⟨g, off + k * 2 + 1, none⟩ = some (.int .i64 p.t)) (first | with_reducible exact ⟨q0, q1⟩ | go_keep | exact ⟨cell_alloc q0, cell_alloc q1⟩ | exact ⟨r0, r1⟩)
              (first
               | (refine step_append_any (by rfl) (.tmp 41) (.tmp 46) 59 (by rfl) w.heap.size 91 inf0 _ 2 16 Tryd.underlying59 hi jz0 jz1 jz2 rfl (by decide) _ k _ (by rfl) ((HPRE.out.alloc _).drew) (some ⟨w9.heap.size, 0, none⟩) 1 1 [.int .i64 p.f, .int .i64 p.t] (by rfl) rfl (fun ad ha j u hj => by cases ha; exact cell_drew (World.news_of_block (cs := #[.int .i64 p.f, .int .i64 p.t]) (blk_new rfl) j u hj)) (fun h => by cases h) (by simp [Value.oneCell']) (by unfold maxLen; omega) (by omega) (by simp; omega) ?_; intro v1 w10 hown1 hgrow1; have hz1 := hgrow1.size; have r0 := (World.grownBy.cell_far hgrow1 ⟨g, off + k * 2, none⟩ (by simp; omega) (fun e => by have h9 := (HPRE.out.lt _ e.symm).1; dsimp only at h9; omega)).trans (cell_drew (cell_alloc q0)); have r1 := (World.grownBy.cell_far hgrow1 ⟨g, off + k * 2 + 1, none⟩ (by simp; omega) (fun e => by have h9 := (HPRE.out.lt _ e.symm).1; dsimp only at h9; omega)).trans (cell_drew (cell_alloc q1)))
               | (refine step_append_any (by rfl) (.tmp 47) (.tmp 48) 59 (by rfl) w.heap.size 91 inf0 _ 2 16 Tryd.underlying59 hi jz0 jz1 jz2 rfl (by decide) _ (k + 1) _ (by rfl) hown1 A9 0 c9 [] (by rfl) rfl (fun _ _ j u h => by simp at h) (fun h => ⟨rfl, HA9.out h⟩) (fun u h => by simp at h) (by unfold maxLen; omega) (by omega) (by simp at hz1; omega) ?_; intro v2 w11 hown2 hgrow2; replace r0 := (World.grownBy.cell_far hgrow2 ⟨g, off + k * 2, none⟩ (by simp at hz1 ⊢; omega) (fun e => by have h9 := (hown1.lt _ e.symm).1; dsimp only at h9; omega)).trans r0; replace r1 := (World.grownBy.cell_far hgrow2 ⟨g, off + k * 2 + 1, none⟩ (by simp at hz1 ⊢; omega) (fun e => by have h9 := (hown1.lt _ e.symm).1; dsimp only at h9; omega)).trans r1))
            all_goals
              go_wp2_with fail
              go_roundw
              case rel =>
                refine ⟨k + 1, s.take k ++ [p] ++ s.drop k, by omega, by go_num, ?_, Lib.hid ⟨ins_perm HS.out.1 HX.out, ins_pair (by omega) HS.out.2 HJ.out (fun y hy => by rw [List.getElem?_eq_none (by omega)] at hy; cases hy)⟩, ?_⟩
                · unfold Own
                  rw [List.take_of_length_le (by omega), List.drop_of_length_le (by omega), List.append_nil, show (s ++ [p]).length = k + 1 by simp [hsl], List.flatMap_append]
                  simpa [encU] using hown2
                · have hb1 : Below w.heap.size w w10 := Below.grown (w := (w9.alloc (.cells #[.int .i64 p.f, .int .i64 p.t] 91)).drew) (by (repeat' (first | with_reducible exact Below.refl _ _ | with_reducible assumption | with_reducible refine Below.drew ?_ | with_reducible refine below_drewN ?_ _ | with_reducible refine Below.setCell ?_ ?_ _ | with_reducible refine Below.alloc ?_ ?_ _ | omega | (simp; done) | (simp; omega)))) hgrow1 (by simp; omega) (fun g hg => (HPRE.out.lt g hg).1)
                  exact Below.grown hb1 hgrow2 (by simp at hz1; omega) (fun g hg => (hown1.lt g hg).1)
              case measure => simp [intOf]; omega
    · obtain rfl : k = l.length := by omega
      have hpm : s.Perm l := by have h := HS.out.1; rw [List.take_length] at h; exact h
      have HM := Lib.hid (merged_set hpm HS.out.2 HV.out)
      have hslen : s.length = l.length := hpm.length_eq
      have hms : s.length ≤ 100000 := by omega
      obtain ⟨A2, c2, rfl, _, _, hr2⟩ := Own.rows (fun x _ => encU_len x) hown
      have HR := Lib.hid hr2
      rw [← hslen] at hlt
      clear hown hr2 HO HS hpm hslen HL HV hm hk hlt
      go_wp2_with fail
      go_loopw [7, 8] (fun v i wr => ∃ (k : Nat) (out : List (Pc Unit)), k ≤ s.length ∧ out.length ≤ k ∧ i = .int .i64 k ∧ Own encU 2 91 w1.heap.size wr v out ∧ Hid ((k = 0 ∧ out = []) ∨ ∃ pre q, out = pre ++ [q] ∧ pre ++ mg q (s.drop k) = mergedL s) ∧ Below w1.heap.size w1 wr) (fun _ i _ => s.length - (intOf i).toNat)
      case atStart => exact ⟨0, [], Nat.zero_le _, Nat.le_refl _, rfl, Own.nil, Lib.hid (.inl ⟨rfl, rfl⟩), Below.refl _ _⟩
      case round =>
        obtain ⟨k, out, hk, ho, rfl, hown, hJ, hw0⟩ := hrel
        have z0 := hw0.size
        by_cases hlt : k < s.length
        · obtain ⟨p, hp⟩ : ∃ p, s[k]? = some p := ⟨s[k], List.getElem?_eq_getElem hlt⟩
          obtain ⟨g, off, rfl, hg, k0, k1⟩ := cells2 (HR.out.below hw0 (Nat.le_refl _)) hp
          have hlt2 : (k : Int) < (s.length : Int) := by omega
          have hdr := Lib.hid (drop_cons hp)
          clear hp
          rcases hJ.out with ⟨hk0, rfl⟩ | ⟨pre, q, rfl, hj⟩
          · obtain ⟨A2, c2, rfl, _, _, _⟩ := Own.rows (fun x _ => encU_len x) hown
            have HO := Lib.hid hown
            have HJ : Hid ([] ++ mg p (s.drop (k + 1)) = mergedL s) := by
              show _ = _
              have h := hdr.out
              rw [hk0, List.drop_zero] at h
              rw [hk0, List.nil_append]
              conv => rhs; rw [h]
              rfl
            clear hown hJ hk0
            go_wp2_with fail
            go_quiet (fail)
            go_wp2_with (at_builtin; go_must (refine wpList_append_own _ rfl (.tmp 91) (.tmp 96) 59 rfl w1.heap.size 91 inf0 _ 2 16 Tryd.underlying59 hi jz0 jz1 jz2 rfl (by decide) _ 0 _ rfl (own_below HO.out (by (repeat' (first | with_reducible exact Below.refl _ _ | with_reducible assumption | with_reducible refine Below.drew ?_ | with_reducible refine below_drewN ?_ _ | with_reducible refine Below.setCell ?_ ?_ _ | with_reducible refine Below.alloc ?_ ?_ _ | omega | (simp; done) | (simp; omega))))) ⟨wr.heap.size, 0, none⟩ 1 1 [.int .i64 p.f, .int .i64 p.t] rfl rfl (World.news_of_block (cs := #[.int .i64 p.f, .int .i64 p.t]) (blk_new (by simp))) (by simp [Value.oneCell']) (by unfold maxLen; omega) (by omega) (by simp; omega) ?_); intro v' w9 hown9 hgrow9 _)
            go_roundw
            case rel =>
              refine ⟨k + 1, [] ++ [p], by omega, (by simp only [List.length_append, List.length_cons, List.length_nil] at ho ⊢; omega), by go_num, ?_, Lib.hid (.inr ⟨[], p, rfl, HJ.out⟩), ?_⟩
              · exact Own.snoc hown9 (by simp) (by simp [encU])
              · exact Below.grown (by (repeat' (first | with_reducible exact Below.refl _ _ | with_reducible assumption | with_reducible refine Below.drew ?_ | with_reducible refine below_drewN ?_ _ | with_reducible refine Below.setCell ?_ ?_ _ | with_reducible refine Below.alloc ?_ ?_ _ | omega | (simp; done) | (simp; omega)))) hgrow9 (by simp; omega) (fun g hg => by have := (HO.out.lt g hg).1; omega)
            case measure => simp [intOf]; omega
          · obtain ⟨g2, c2, rfl, hg2, hc2, hrow2, hfz⟩ := own_cells (fun x _ => encU_len x) (by simp) hown
            obtain ⟨m, hm2⟩ : ∃ m, pre.length = m := ⟨_, rfl⟩
            have hlen : (pre ++ [q]).length = m + 1 := by simp [hm2]
            have hq : (pre ++ [q])[m]? = some q := by rw [← hm2]; simp
            obtain ⟨g3, off3, e3, hg3, j0, j1⟩ := cells2 hrow2 hq
            cases e3
            have HO : Hid (wr.ownsRow w1.heap.size 91 2 (.slice (some ⟨g2, 0, none⟩) (m + 1) c2) (m + 1) ((pre ++ [q]).flatMap encU)) := by
              have h := hown
              unfold Own at h
              rw [hlen] at h
              exact h
            have HPL := Lib.hid hm2
            have ho2 : m + 1 ≤ k := by rw [← hlen]; exact ho
            have hmk : IntKind.i64.wrap (((m : Int) + 1) - 1) = (m : Int) := by rw [IntKind.wrap_i64]; omega
            rw [hlen]
            rw [Nat.zero_add] at j0 j1
            clear hown hJ hm2 hlen hq hrow2
            by_cases hT : p.f ≤ q.t
            · have HJ : Hid (pre ++ mg ⟨q.f, max q.t p.t, ()⟩ (s.drop (k + 1)) = mergedL s) := by show _ = _; rw [← hj, hdr.out, mg_join hT]
              have e1 : decide (p.f ≤ q.t) = true := by simp [hT]
              clear hj hT
              go_wp2_with fail
              go_quiet (fail)
              go_wp2_with fail
              go_region
              go_wp2_with fail
              go_roundw
              case rel =>
                refine ⟨k + 1, pre ++ [⟨q.f, max q.t p.t, ()⟩], by omega, (by simp only [List.length_append, List.length_cons, List.length_nil] at ho ⊢; omega), by go_num, ?_, Lib.hid (.inr ⟨pre, _, rfl, HJ.out⟩), ?_⟩
                · have h := own_set (i := m * 2 + 1) (own_below HO.out (w' := wr.drewN (nq + 1)) (by (repeat' (first | with_reducible exact Below.refl _ _ | with_reducible assumption | with_reducible refine Below.drew ?_ | with_reducible refine below_drewN ?_ _ | with_reducible refine Below.setCell ?_ ?_ _ | with_reducible refine Below.alloc ?_ ?_ _ | omega | (simp; done) | (simp; omega))))) (by omega) (.int .i64 (max q.t p.t))
                  have e := flat_set_last encU_len pre q ⟨q.f, max q.t p.t, ()⟩ 1 (.int .i64 (max q.t p.t)) rfl (by decide)
                  rw [HPL.out] at e
                  rw [e] at h
                  unfold Own
                  rw [show (pre ++ [(⟨q.f, max q.t p.t, ()⟩ : Pc Unit)]).length = m + 1 by simp [HPL.out]]
                  exact h
                · (repeat' (first | with_reducible exact Below.refl _ _ | with_reducible assumption | with_reducible refine Below.drew ?_ | with_reducible refine below_drewN ?_ _ | with_reducible refine Below.setCell ?_ ?_ _ | with_reducible refine Below.alloc ?_ ?_ _ | omega | (simp; done) | (simp; omega)))
              case measure => simp [intOf]; omega
            · have HJ : Hid ((pre ++ [q]) ++ mg p (s.drop (k + 1)) = mergedL s) := by show _ = _; rw [← hj, hdr.out, mg_keep hT]; simp
              have e1 : decide (p.f ≤ q.t) = false := by simp [hT]
              clear hj hT
              go_wp2_with fail
              go_quiet (fail)
              go_wp2_with (at_builtin; go_must (refine wpList_append_own _ rfl (.tmp 91) (.tmp 96) 59 rfl w1.heap.size 91 inf0 _ 2 16 Tryd.underlying59 hi jz0 jz1 jz2 rfl (by decide) _ (m + 1) _ rfl (own_below HO.out (by (repeat' (first | with_reducible exact Below.refl _ _ | with_reducible assumption | with_reducible refine Below.drew ?_ | with_reducible refine below_drewN ?_ _ | with_reducible refine Below.setCell ?_ ?_ _ | with_reducible refine Below.alloc ?_ ?_ _ | omega | (simp; done) | (simp; omega))))) ⟨wr.heap.size, 0, none⟩ 1 1 [.int .i64 p.f, .int .i64 p.t] rfl rfl (World.news_of_block (cs := #[.int .i64 p.f, .int .i64 p.t]) (blk_new (by simp))) (by simp [Value.oneCell']) (by unfold maxLen; omega) (by omega) (by simp; omega) ?_); intro v' w9 hown9 hgrow9 _)
              go_roundw
              case rel =>
                refine ⟨k + 1, (pre ++ [q]) ++ [p], by omega, (by simp only [List.length_append, List.length_cons, List.length_nil] at ho ⊢; omega), by go_num, ?_, Lib.hid (.inr ⟨pre ++ [q], p, rfl, HJ.out⟩), ?_⟩
                · exact Own.snoc hown9 (by simp [HPL.out]) (by simp [encU])
                · exact Below.grown (by (repeat' (first | with_reducible exact Below.refl _ _ | with_reducible assumption | with_reducible refine Below.drew ?_ | with_reducible refine below_drewN ?_ _ | with_reducible refine Below.setCell ?_ ?_ _ | with_reducible refine Below.alloc ?_ ?_ _ | omega | (simp; done) | (simp; omega)))) hgrow9 (by simp; omega) (fun g hg => by have := (HO.out.lt g hg).1; omega)
              case measure => simp [intOf]; omega
        · obtain rfl : k = s.length := by omega
          have HE : Hid (out = mergedL s) := by
            show _ = _
            rcases hJ.out with ⟨h0, rfl⟩ | ⟨pre, q, rfl, hj⟩
            · rw [List.eq_nil_of_length_eq_zero h0]; rfl
            · rw [← hj, List.drop_length]; rfl
          obtain ⟨A2, c2, rfl, hr2, hA2, hA3⟩ := own_line (fun x _ => encU_len x) hown
          have HR2 := Lib.hid hr2
          clear hown hJ hr2
          go_wp2_with fail
          go_ret
          exact ⟨⟨A2, c2, out, rfl, HR2.out, hA2, fun a ha => by have := hA3 a ha; omega, by rw [HE.out]; exact HM.out⟩, hb.trans (hw0.mono hz)⟩
end

end Go.Proofs.YtmodofbelpaelaaDoor
