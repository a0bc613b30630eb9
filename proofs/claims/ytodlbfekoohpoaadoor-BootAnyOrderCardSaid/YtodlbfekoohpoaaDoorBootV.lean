/- BootAnyOrder's walk. -/
import Derived.Test.YtodlbfekoohpoaaDoorBootU
import Derived.Laws.MakeOwn
import Derived.Laws.OwnMore
import Derived.Deep.DeepCutAuto
namespace Go.Proofs.YtodlbfekoohpoaaDoor
open Go.RowKit

theorem infoInt5 : (Tryd.prog.info? 3).map (fun i => (i.zero, i.size, i.bytes)) = some (some (.int .i64 0), 1, 8) := by kernel_rfl
/-- where none ran -/
theorem made_none (n : Nat) : madeCells #[Value.int .i64 0] n = ((List.replicate n (0 : Int)).map (Value.int .i64)).toArray := by
  apply Array.ext'
  rw [toList_madeCells_one]
  simp
theorem run_none (n : Nat) (hn : n ≤ 60) (w : World) : (Instr.makeSlice 42 (.int .i64 (n : Int)) (.int .i64 (n : Int))).run Tryd.prog w = .ok (.slice (some ⟨w.heap.size, 0, none⟩) n n) (w.alloc (.cells ((List.replicate n (0 : Int)).map (Value.int .i64)).toArray 3)) := by
  obtain ⟨inf0, hi, jz0, jz1, jz2⟩ := info_parts infoInt5
  have h := run_make (P := Tryd.prog) (w := w) 42 3 inf0 _ Tryd.underlying42 hi jz0 .i64 .i64 (n : Int) (n : Int) (by omega) (Int.le_refl _) (by rw [jz2]; omega) (by omega)
  rw [jz1, Nat.mul_one, Int.toNat_natCast] at h
  rw [h, ← made_none]
  rfl

/-- two ledgers' blocks are apart: one's lie ahead of the other's -/
def NewB (w : World) (L P U wB rB : Nat) (v : Value) : Prop := ∀ k, Blk L P U wB rB v k → w.heap.size ≤ k

/-- a new ledger of steps -/
theorem ts_new {S : List Sm} {A : Option Addr} {cS b c : Nat} {E : Nat → Addr} {m : Int} {L P U wB rB : Nat} {w w0 W : World} (hb : b ≤ c) (hc : c ≤ w0.heap.size) (hw : Below w0.heap.size w0 W) (hE : Env L5 E w0) (hm : w0.cell? ⟨5, 0, none⟩ = some (.int .i64 m)) (low : (∀ g ∈ L5, g < b ∧ (E g).block < b) ∧ 5 < b) (hs : SumsAt w0 b A S)
    (hl : Led w.heap.size W L P U (.slice none 0 0) [] [] false 0) (hcw : c ≤ w.heap.size)
    (hwB : W.heap[wB]? = some (.cells #[.slice A S.length cS, .pointer (some ⟨L, 0, none⟩), .slice (some ⟨rB, 0, none⟩) S.length S.length, .bool false] 47 (0, 0)))
    (hrB0 : W.heap[rB]? = some (.cells (Array.replicate S.length (.int .i64 0)) 3 (0, 0))) (c1 : c ≤ wB) (c2 : c ≤ rB) (hne : wB ≠ rB) (d1 : ∀ k, k = wB ∨ k = rB → k ≠ L ∧ k ≠ P ∧ k ≠ U) :
    TS S A cS b E m L P U wB rB W (.slice none 0 0) [] (List.replicate S.length 0) 0 ∧ (∀ k, Blk L P U wB rB (.slice none 0 0) k → c ≤ k) := by
  have hl2 : Led b W L P U (.slice none 0 0) [] [] false 0 := ⟨by have := hl.hL; omega, by have := hl.hP; omega, by have := hl.hU; omega, hl.ne, hl.box, Own.nil, hl.places, hl.under, hl.len⟩
  have hrB : W.heap[rB]? = some (.cells ((List.replicate S.length (0 : Int)).map (Value.int .i64)).toArray 3 (0, 0)) := by simpa using hrB0
  have f1 := d1 wB (.inl rfl)
  have f2 := d1 rB (.inr rfl)
  refine ⟨⟨⟨⟨hl2, hE.below hw, cellOf hw hm, by have := hw.size; omega, low⟩, ⟨⟨(Array.getElem?_eq_some_iff.1 hwB).1, f1.1, f1.2.1, f1.2.2, by simp [Value.ownBlock]⟩, hwB⟩, ⟨⟨(Array.getElem?_eq_some_iff.1 hrB).1, f2.1, f2.2.1, f2.2.2, by simp [Value.ownBlock]⟩, hrB⟩, hs.below hw (by omega), Gd.nil S, hne, by omega, List.length_replicate ..⟩, fun j hj => ?_, by omega⟩, fun k hk => ?_⟩
  · rw [List.getElem?_replicate, if_pos hj]; rfl
  · have h1 := hl.hL
    have h2 := hl.hP
    have h3 := hl.hU
    rcases hk with (e | e | e | e) | e | e
    · omega
    · omega
    · omega
    · simp [Value.ownBlock] at e
    · omega
    · omega

set_option maxRecDepth 10000 in
set_option maxHeartbeats 16000000 in
theorem anyorder_any (S : List Sm) (hF : ∀ s ∈ S, ∀ f ∈ s.2, -9223372036854775808 ≤ f ∧ f ≤ 9223372036854775807) (A : Option Addr) (cS : Nat) (l1 l2 : List Int) (A1 A2 : Option Addr) (c1 c2 : Nat) (E : Nat → Addr) (m : Int) (w : World) (hE : Env L5 E w) (hm : w.cell? ⟨5, 0, none⟩ = some (.int .i64 m))
    (hs : SumsAt w w.heap.size A S) (h1 : RowAt encZ 1 w w.heap.size A1 l1) (h2 : RowAt encZ 1 w w.heap.size A2 l2) (n1 : l1.length ≤ maxLen) (n2 : l2.length ≤ maxLen) (hSl : S.length ≤ maxLen) :
    Calls Tryd.prog 4 #[.slice A S.length cS, .slice A1 l1.length c1, .slice A2 l2.length c2] w fun e w' => e = .returned (.bool true) ∧ Below w.heap.size w w' := by
  have LOW := Lib.hid (⟨L5_lt hE, cell_lt hm⟩ : (∀ g ∈ L5, g < w.heap.size ∧ (E g).block < w.heap.size) ∧ 5 < w.heap.size)
  have HE := Lib.hid hE
  have HM := Lib.hid hm
  have HS := Lib.hid hs
  have HF := Lib.hid hF
  have H1 := Lib.hid h1
  have H2 := Lib.hid h2
  clear hE hm hs hF h1 h2
  go_enter Tryd.func4, Tryd.ntmps4
  go_wp2_with fail
  refine (first_any E m _ HE.out HM.out).mono ?_
  rintro e w1 ⟨rfl, hb1⟩
  by_cases hlen : S.length ≤ 60
  · have g1 : ¬ (60 : Int) < (S.length : Int) := by omega
    go_wp2_with fail
    go_loopw [8] (fun kv wr => ∃ k : Nat, k ≤ S.length ∧ kv = .int .i64 k ∧ Hid (∀ j s, j < k → S[j]? = some s → -1099511627776 ≤ s.1 ∧ s.1 ≤ 1099511627776) ∧ Below w.heap.size w wr) (fun kv _ => S.length - (intOf kv).toNat)
    case atStart => exact ⟨0, Nat.zero_le _, rfl, fun j s h => by omega, by (repeat' (first | with_reducible exact Below.refl _ _ | with_reducible assumption | with_reducible refine Below.drew ?_ | with_reducible refine below_drewN ?_ _ | with_reducible refine Below.setCell ?_ ?_ _ | with_reducible refine Below.alloc ?_ ?_ _ | omega | (simp; done) | (simp; omega)))⟩
    case round =>
      obtain ⟨k, hk, rfl, hmild, hb⟩ := hrel
      obtain ⟨w2, rfl⟩ : ∃ w2, w2 = wr := ⟨wr, rfl⟩
      by_cases hlt : k < S.length
      · obtain ⟨s, hs⟩ : ∃ s, S[k]? = some s := ⟨S[k], List.getElem?_eq_getElem hlt⟩
        obtain ⟨sb, so, F, cf, rfl, hsb, j0, _, _⟩ := (HS.out.below hb (Nat.le_refl _)) k s hs
        have m1 : (k : Int) < (S.length : Int) := by omega
        have HK := Lib.hid hs
        clear hs hsb
        by_cases b1 : (1099511627776 : Int) < s.1
        · go_wp2_with fail
          go_ret
          exact ⟨rfl, by (repeat' (first | with_reducible exact Below.refl _ _ | with_reducible assumption | with_reducible refine Below.drew ?_ | with_reducible refine below_drewN ?_ _ | with_reducible refine Below.setCell ?_ ?_ _ | with_reducible refine Below.alloc ?_ ?_ _ | omega | (simp; done) | (simp; omega)))⟩
        · by_cases b2 : s.1 < -1099511627776
          · go_wp2_with fail
            go_ret
            exact ⟨rfl, by (repeat' (first | with_reducible exact Below.refl _ _ | with_reducible assumption | with_reducible refine Below.drew ?_ | with_reducible refine below_drewN ?_ _ | with_reducible refine Below.setCell ?_ ?_ _ | with_reducible refine Below.alloc ?_ ?_ _ | omega | (simp; done) | (simp; omega)))⟩
          · go_wp2_with fail
            go_roundw
            case rel => exact ⟨k + 1, by omega, by go_num, fun j s' hj hs' => by (rcases Nat.lt_or_ge j k with h | h; exact hmild.out j s' h hs'; (obtain rfl : j = k := by omega); obtain rfl := Option.some.inj (hs'.symm.trans HK.out); omega), by (repeat' (first | with_reducible exact Below.refl _ _ | with_reducible assumption | with_reducible refine Below.drew ?_ | with_reducible refine below_drewN ?_ _ | with_reducible refine Below.setCell ?_ ?_ _ | with_reducible refine Below.alloc ?_ ?_ _ | omega | (simp; done) | (simp; omega)))⟩
            case measure => simp [intOf]; omega
      · have m1 : ¬ (k : Int) < (S.length : Int) := by omega
        have HMI : Hid (Mild S) := fun s hs => by
          obtain ⟨j, hj⟩ := List.getElem?_of_mem hs
          exact hmild.out j s (by have := (List.getElem?_eq_some_iff.1 hj).1; omega) hj
        have hmk := run_none S.length hlen
        clear hmild
        go_upto_region 9 with fail
        go_cut [9] (fun s9 wx => ∃ L P U wB rB : Nat, s9 = .pointer (some ⟨wB, 0, none⟩) ∧ Hid (TS S A cS w.heap.size E m L P U wB rB wx (.slice none 0 0) [] (List.replicate S.length 0) 0 ∧ (∀ k, Blk L P U wB rB (.slice none 0 0) k → w2.heap.size ≤ k)) ∧ Below w2.heap.size w2 wx)
        case first =>
          as_aux_lemma =>
          have j0 : w2.cell? ⟨5, 0, none⟩ = some (.int .i64 m) := cellOf hb HM.out
          have n0 := World.new_ne w2 _ j0
          go_wp2_with fail
          go_region_held3 (fun w' => w'.cell? ⟨5, 0, none⟩ = some (.int .i64 m)) (first | with_reducible exact j0 | go_keep)
            ((go_at_call 8; refine (new_any _).mono ?_; rintro e wn ⟨L, P, U, rfl, hl3, hbn⟩; have hwn : Below w2.heap.size w2 wn := stepH (by (repeat' (first | with_reducible exact Below.refl _ _ | with_reducible assumption | with_reducible refine Below.drew ?_ | with_reducible refine below_drewN ?_ _ | with_reducible refine Below.setCell ?_ ?_ _ | with_reducible refine Below.alloc ?_ ?_ _ | omega | (simp; done) | (simp; omega)))) hbn; replace j0 := cellOf hbn (by first | exact j0 | exact cell_alloc j0 | exact cell_drew j0 | exact cell_alloc (cell_drew j0) | exact cell_drew (cell_alloc (cell_drew j0)))))
          · have z1 : (wn.alloc (.cells (Array.replicate S.length (Value.int .i64 0)) 3)).heap.size = wn.heap.size + 1 := Array.size_push _
            have q1 := hl3.lt
            obtain ⟨_, _, _, q2, _⟩ := hl3.places
            obtain ⟨_, q3, _⟩ := hl3.under
            have q2 := q2.lt
            have q3 := q3.lt
            have q4 := hl3.hL
            have q5 := hl3.hP
            have q6 := hl3.hU
            have zz := hwn.size
            have hq := ts_new (S := S) (A := A) (cS := cS) (b := w.heap.size) (c := w2.heap.size) (w := w2) (W := (wn.alloc (.cells (Array.replicate S.length (Value.int .i64 0)) 3)).alloc (.cells #[.slice A S.length cS, .pointer (some ⟨L, 0, none⟩), .slice (some ⟨wn.heap.size, 0, none⟩) S.length S.length, .bool false] 47)) hb.size (Nat.le_refl _) (by (repeat' (first | with_reducible exact Below.refl _ _ | with_reducible assumption | with_reducible refine Below.drew ?_ | with_reducible refine below_drewN ?_ _ | with_reducible refine Below.setCell ?_ ?_ _ | with_reducible refine Below.alloc ?_ ?_ _ | omega | (simp; done) | (simp; omega)))) (HE.out.below hb) (cellOf hb HM.out) LOW.out (HS.out.below hb (Nat.le_refl _)) (hl3.below (by (repeat' (first | with_reducible exact Below.refl _ _ | with_reducible assumption | with_reducible refine Below.drew ?_ | with_reducible refine below_drewN ?_ _ | with_reducible refine Below.setCell ?_ ?_ _ | with_reducible refine Below.alloc ?_ ?_ _ | omega | (simp; done) | (simp; omega))))) (Nat.le_refl _) (blk_new z1) (blk_old (blk_new rfl)) (wB := wn.heap.size + 1) (rB := wn.heap.size) (by omega) (by omega) (by omega) (by omega)
            go_wp2_with fail
            go_meet
            exact ⟨L, P, U, wn.heap.size + 1, wn.heap.size, rfl, hq, by (repeat' (first | with_reducible exact Below.refl _ _ | with_reducible assumption | with_reducible refine Below.drew ?_ | with_reducible refine below_drewN ?_ _ | with_reducible refine Below.setCell ?_ ?_ _ | with_reducible refine Below.alloc ?_ ?_ _ | omega | (simp; done) | (simp; omega)))⟩
          · have z0 : (w2.alloc (.cells (Array.replicate S.length (Value.int .i64 0)) 3)).drew.heap.size = w2.heap.size + 1 := Array.size_push _
            have z1 : w2.heap.size < wn.heap.size := by have := hbn.size; rw [z0] at this; omega
            have q1 := hl3.lt
            obtain ⟨_, _, _, q2, _⟩ := hl3.places
            obtain ⟨_, q3, _⟩ := hl3.under
            have q2 := q2.lt
            have q3 := q3.lt
            have q4 := hl3.hL
            have q5 := hl3.hP
            have q6 := hl3.hU
            have zz := hwn.size
            rw [z0] at q4 q5 q6
            have hr : wn.heap[w2.heap.size]? = some (.cells (Array.replicate S.length (Value.int .i64 0)) 3 (0, 0)) := (hbn.block _ (by rw [z0]; omega)).trans (blk_new rfl)
            have hq := ts_new (S := S) (A := A) (cS := cS) (b := w.heap.size) (c := w2.heap.size) (w := (w2.alloc (.cells (Array.replicate S.length (Value.int .i64 0)) 3)).drew) (W := wn.alloc (.cells #[.slice A S.length cS, .pointer (some ⟨L, 0, none⟩), .slice (some ⟨w2.heap.size, 0, none⟩) S.length S.length, .bool false] 47)) hb.size (Nat.le_refl _) (by (repeat' (first | with_reducible exact Below.refl _ _ | with_reducible assumption | with_reducible refine Below.drew ?_ | with_reducible refine below_drewN ?_ _ | with_reducible refine Below.setCell ?_ ?_ _ | with_reducible refine Below.alloc ?_ ?_ _ | omega | (simp; done) | (simp; omega)))) (HE.out.below hb) (cellOf hb HM.out) LOW.out (HS.out.below hb (Nat.le_refl _)) (hl3.below (by (repeat' (first | with_reducible exact Below.refl _ _ | with_reducible assumption | with_reducible refine Below.drew ?_ | with_reducible refine below_drewN ?_ _ | with_reducible refine Below.setCell ?_ ?_ _ | with_reducible refine Below.alloc ?_ ?_ _ | omega | (simp; done) | (simp; omega))))) (by rw [z0]; omega) (blk_new rfl) (blk_old hr) (wB := wn.heap.size) (rB := w2.heap.size) (by omega) (by omega) (by omega) (by omega)
            go_wp2_with fail
            go_meet
            exact ⟨L, P, U, wn.heap.size, w2.heap.size, rfl, hq, by (repeat' (first | with_reducible exact Below.refl _ _ | with_reducible assumption | with_reducible refine Below.drew ?_ | with_reducible refine below_drewN ?_ _ | with_reducible refine Below.setCell ?_ ?_ _ | with_reducible refine Below.alloc ?_ ?_ _ | omega | (simp; done) | (simp; omega)))⟩
        case rest =>
          as_aux_lemma =>
        obtain ⟨La, Pa, Ua, wa, ra, rfl, ha, hba⟩ := hcut
        obtain ⟨w3, rfl⟩ : ∃ x : World, x = wc := ⟨_, rfl⟩
        have hb3 : Below w.heap.size w w3 := hb.trans (hba.mono hb.size)
        clear hba
        go_upto_region 10 with fail
        go_cut [10] (fun s9 wx => ∃ L P U wB rB : Nat, s9 = .pointer (some ⟨wB, 0, none⟩) ∧ Hid (TS S A cS w.heap.size E m L P U wB rB wx (.slice none 0 0) [] (List.replicate S.length 0) 0 ∧ (∀ k, Blk L P U wB rB (.slice none 0 0) k → w3.heap.size ≤ k)) ∧ Below w3.heap.size w3 wx)
        case first =>
          as_aux_lemma =>
          have j0 : w3.cell? ⟨5, 0, none⟩ = some (.int .i64 m) := cellOf hb3 HM.out
          have n0 := World.new_ne w3 _ j0
          go_wp2_with fail
          go_region_held3 (fun w' => w'.cell? ⟨5, 0, none⟩ = some (.int .i64 m)) (first | with_reducible exact j0 | go_keep)
            ((go_at_call 8; refine (new_any _).mono ?_; rintro e wn ⟨L, P, U, rfl, hl3, hbn⟩; have hwn : Below w3.heap.size w3 wn := stepH (by (repeat' (first | with_reducible exact Below.refl _ _ | with_reducible assumption | with_reducible refine Below.drew ?_ | with_reducible refine below_drewN ?_ _ | with_reducible refine Below.setCell ?_ ?_ _ | with_reducible refine Below.alloc ?_ ?_ _ | omega | (simp; done) | (simp; omega)))) hbn; replace j0 := cellOf hbn (by first | exact j0 | exact cell_alloc j0 | exact cell_drew j0 | exact cell_alloc (cell_drew j0) | exact cell_drew (cell_alloc (cell_drew j0)))))
          · have z1 : (wn.alloc (.cells (Array.replicate S.length (Value.int .i64 0)) 3)).heap.size = wn.heap.size + 1 := Array.size_push _
            have q1 := hl3.lt
            obtain ⟨_, _, _, q2, _⟩ := hl3.places
            obtain ⟨_, q3, _⟩ := hl3.under
            have q2 := q2.lt
            have q3 := q3.lt
            have q4 := hl3.hL
            have q5 := hl3.hP
            have q6 := hl3.hU
            have zz := hwn.size
            have hq := ts_new (S := S) (A := A) (cS := cS) (b := w.heap.size) (c := w3.heap.size) (w := w3) (W := (wn.alloc (.cells (Array.replicate S.length (Value.int .i64 0)) 3)).alloc (.cells #[.slice A S.length cS, .pointer (some ⟨L, 0, none⟩), .slice (some ⟨wn.heap.size, 0, none⟩) S.length S.length, .bool false] 47)) hb3.size (Nat.le_refl _) (by (repeat' (first | with_reducible exact Below.refl _ _ | with_reducible assumption | with_reducible refine Below.drew ?_ | with_reducible refine below_drewN ?_ _ | with_reducible refine Below.setCell ?_ ?_ _ | with_reducible refine Below.alloc ?_ ?_ _ | omega | (simp; done) | (simp; omega)))) (HE.out.below hb3) (cellOf hb3 HM.out) LOW.out (HS.out.below hb3 (Nat.le_refl _)) (hl3.below (by (repeat' (first | with_reducible exact Below.refl _ _ | with_reducible assumption | with_reducible refine Below.drew ?_ | with_reducible refine below_drewN ?_ _ | with_reducible refine Below.setCell ?_ ?_ _ | with_reducible refine Below.alloc ?_ ?_ _ | omega | (simp; done) | (simp; omega))))) (Nat.le_refl _) (blk_new z1) (blk_old (blk_new rfl)) (wB := wn.heap.size + 1) (rB := wn.heap.size) (by omega) (by omega) (by omega) (by omega)
            go_wp2_with fail
            go_meet
            exact ⟨L, P, U, wn.heap.size + 1, wn.heap.size, rfl, hq, by (repeat' (first | with_reducible exact Below.refl _ _ | with_reducible assumption | with_reducible refine Below.drew ?_ | with_reducible refine below_drewN ?_ _ | with_reducible refine Below.setCell ?_ ?_ _ | with_reducible refine Below.alloc ?_ ?_ _ | omega | (simp; done) | (simp; omega)))⟩
          · have z0 : (w3.alloc (.cells (Array.replicate S.length (Value.int .i64 0)) 3)).drew.heap.size = w3.heap.size + 1 := Array.size_push _
            have z1 : w3.heap.size < wn.heap.size := by have := hbn.size; rw [z0] at this; omega
            have q1 := hl3.lt
            obtain ⟨_, _, _, q2, _⟩ := hl3.places
            obtain ⟨_, q3, _⟩ := hl3.under
            have q2 := q2.lt
            have q3 := q3.lt
            have q4 := hl3.hL
            have q5 := hl3.hP
            have q6 := hl3.hU
            have zz := hwn.size
            rw [z0] at q4 q5 q6
            have hr : wn.heap[w3.heap.size]? = some (.cells (Array.replicate S.length (Value.int .i64 0)) 3 (0, 0)) := (hbn.block _ (by rw [z0]; omega)).trans (blk_new rfl)
            have hq := ts_new (S := S) (A := A) (cS := cS) (b := w.heap.size) (c := w3.heap.size) (w := (w3.alloc (.cells (Array.replicate S.length (Value.int .i64 0)) 3)).drew) (W := wn.alloc (.cells #[.slice A S.length cS, .pointer (some ⟨L, 0, none⟩), .slice (some ⟨w3.heap.size, 0, none⟩) S.length S.length, .bool false] 47)) hb3.size (Nat.le_refl _) (by (repeat' (first | with_reducible exact Below.refl _ _ | with_reducible assumption | with_reducible refine Below.drew ?_ | with_reducible refine below_drewN ?_ _ | with_reducible refine Below.setCell ?_ ?_ _ | with_reducible refine Below.alloc ?_ ?_ _ | omega | (simp; done) | (simp; omega)))) (HE.out.below hb3) (cellOf hb3 HM.out) LOW.out (HS.out.below hb3 (Nat.le_refl _)) (hl3.below (by (repeat' (first | with_reducible exact Below.refl _ _ | with_reducible assumption | with_reducible refine Below.drew ?_ | with_reducible refine below_drewN ?_ _ | with_reducible refine Below.setCell ?_ ?_ _ | with_reducible refine Below.alloc ?_ ?_ _ | omega | (simp; done) | (simp; omega))))) (by rw [z0]; omega) (blk_new rfl) (blk_old hr) (wB := wn.heap.size) (rB := w3.heap.size) (by omega) (by omega) (by omega) (by omega)
            go_wp2_with fail
            go_meet
            exact ⟨L, P, U, wn.heap.size, w3.heap.size, rfl, hq, by (repeat' (first | with_reducible exact Below.refl _ _ | with_reducible assumption | with_reducible refine Below.drew ?_ | with_reducible refine below_drewN ?_ _ | with_reducible refine Below.setCell ?_ ?_ _ | with_reducible refine Below.alloc ?_ ?_ _ | omega | (simp; done) | (simp; omega)))⟩
        case rest =>
          as_aux_lemma =>
        obtain ⟨Lb, Pb, Ub, wb, rb, rfl, hbT, hbb⟩ := hcut
        obtain ⟨w4, rfl⟩ : ∃ x : World, x = wc := ⟨_, rfl⟩
        have TA := Lib.hid (ha.out.1.below hbb)
        have TB := Lib.hid hbT.out.1
        have DI : Hid (∀ k, Blk La Pa Ua wa ra (.slice none 0 0) k → ¬ Blk Lb Pb Ub wb rb (.slice none 0 0) k) := fun k h1 h2 => by have := ha.out.1.size h1; have := hbT.out.2 k h2; omega
        have HB4 := Lib.hid (hb3.trans (hbb.mono hb3.size))
        have k0 : w4.cell? ⟨wa, 1, none⟩ = some (.pointer (some ⟨La, 0, none⟩)) := TA.out.gs.wb.cell 1
        have k1 : w4.cell? ⟨wb, 1, none⟩ = some (.pointer (some ⟨Lb, 0, none⟩)) := TB.out.gs.wb.cell 1
        have HCA := Lib.hid (asked_any S HMI.out HF.out hlen A cS w.heap.size E m La Pa Ua wa ra w4 _ _ _ _ TA.out l1 A1 c1 (H1.out.below HB4.out (Nat.le_refl _)) n1)
        clear hb hb3 hbb ha hbT hmk
        go_wp2_with fail
        refine HCA.out.mono ?_
        rintro e w5 ⟨rfl, va, Ia, Ra, ua, t5, p5⟩
        have O5 := TB.out.other (fun k h1 h2 => DI.out k h2 h1) TA.out p5
        have TA5 := Lib.hid t5
        have TB5 := Lib.hid O5.1
        have DI5 := Lib.hid O5.2.2
        have HB5 := Lib.hid (HB4.out.trans (TA.out.gs.st.keepB p5 (by simp [TA.out.gs.hr])))
        have HCB := Lib.hid (asked_any S HMI.out HF.out hlen A cS w.heap.size E m Lb Pb Ub wb rb w5 _ _ _ _ TB5.out l2 A2 c2 (H2.out.below HB5.out (Nat.le_refl _)) n2)
        clear O5 t5 p5 k0 k1
        go_wp2_with fail
        refine HCB.out.mono ?_
        rintro e w6 ⟨rfl, vb, Ib, Rb, ub, t6, p6⟩
        have O6 := TA5.out.other DI5.out TB5.out p6
        have TA6 := Lib.hid O6.1
        have TB6 := Lib.hid t6
        have DI6 := Lib.hid O6.2.1
        have HB6 := Lib.hid (HB5.out.trans (TB5.out.gs.st.keepB p6 (by simp [TB5.out.gs.hr])))
        clear O6 t6 p6 TA TB DI TA5 TB5 DI5 HB4 HB5 HCA HCB
        go_wp2_with fail
        go_loopw [11] (fun kv wr => ∃ (k : Nat) (va vb : Value) (Ia Ib : List Nat) (Ra Rb : List Int) (ua ub : Nat), k ≤ S.length ∧ kv = .int .i64 k ∧ Hid (TS S A cS w.heap.size E m La Pa Ua wa ra wr va Ia Ra ua ∧ TS S A cS w.heap.size E m Lb Pb Ub wb rb wr vb Ib Rb ub ∧ (∀ k, Blk La Pa Ua wa ra va k → ¬ Blk Lb Pb Ub wb rb vb k) ∧ (∀ j, j < k → j ∈ Ia ∧ j ∈ Ib) ∧ Below w.heap.size w wr)) (fun kv _ => S.length - (intOf kv).toNat)
        case atStart => exact ⟨0, va, vb, Ia, Ib, Ra, Rb, ua, ub, Nat.zero_le _, rfl, TA6.out, TB6.out, DI6.out, fun j h => by omega, HB6.out⟩
        case round =>
          clear TA6 TB6 DI6 HB6
          obtain ⟨k, va, vb, Ia, Ib, Ra, Rb, ua, ub, hk, rfl, hH⟩ := hrel
          have HTA := Lib.hid hH.out.1
          have HTB := Lib.hid hH.out.2.1
          have HDI := Lib.hid hH.out.2.2.1
          have HALL := Lib.hid hH.out.2.2.2.1
          have HB := Lib.hid hH.out.2.2.2.2
          clear hH
          by_cases hlt : k < S.length
          · have m1 : (k : Int) < (S.length : Int) := by omega
            obtain ⟨q, hq⟩ : ∃ q : Nat, S.length - 1 - k = q := ⟨_, rfl⟩
            have hq2 : q < S.length := by omega
            obtain ⟨y, hy⟩ : ∃ y : Int, (q : Int) = y := ⟨_, rfl⟩
            have e1 : IntKind.i64.wrap ((S.length : Int) - 1) = (S.length : Int) - 1 := by simp [IntKind.wrap, IntKind.signed, IntKind.bits]; omega
            have e2 : IntKind.i64.wrap ((S.length : Int) - 1 - (k : Int)) = y := by simp [IntKind.wrap, IntKind.signed, IntKind.bits]; omega
            have HY := Lib.hid hy
            have G1 := Lib.hid (get_top S HMI.out HF.out hlen HTA.out k (k : Int) rfl hlt)
            clear hq hy
            go_wp2_with fail
            refine G1.out.mono ?_
            rintro e x1 ⟨rfl, va1, Ia1, Ra1, ua1, t1, p1, s1, i1⟩
            have O1 := HTB.out.other (fun k h1 h2 => HDI.out k h2 h1) HTA.out p1
            have TA1 := Lib.hid t1
            have TB1 := Lib.hid O1.1
            have DI1 := Lib.hid O1.2.2
            have HX1 := Lib.hid (HB.out.trans (HTA.out.gs.st.keepB p1 (by simp [HTA.out.gs.hr])))
            have S1 := Lib.hid (And.intro s1 i1)
            have G2 := Lib.hid (get_top S HMI.out HF.out hlen TB1.out q y HY.out.symm hq2)
            clear O1 t1 p1 s1 i1
            go_wp2_with fail
            refine G2.out.mono ?_
            rintro e x2 ⟨rfl, vb2, Ib2, Rb2, ub2, t2, p2, s2, i2⟩
            have O2 := TA1.out.other DI1.out TB1.out p2
            have TA2 := Lib.hid O2.1
            have TB2 := Lib.hid t2
            have DI2 := Lib.hid O2.2.1
            have HX2 := Lib.hid (HX1.out.trans (TB1.out.gs.st.keepB p2 (by simp [TB1.out.gs.hr])))
            have S2 := Lib.hid (And.intro s2 i2)
            have G3 := Lib.hid (get_top S HMI.out HF.out hlen TA2.out q y HY.out.symm hq2)
            clear O2 t2 p2 s2 i2
            go_wp2_with fail
            refine G3.out.mono ?_
            rintro e x3 ⟨rfl, va3, Ia3, Ra3, ua3, t3, p3, s3, i3⟩
            have O3 := TB2.out.other (fun k h1 h2 => DI2.out k h2 h1) TA2.out p3
            have TA3 := Lib.hid t3
            have TB3 := Lib.hid O3.1
            have DI3 := Lib.hid O3.2.2
            have HX3 := Lib.hid (HX2.out.trans (TA2.out.gs.st.keepB p3 (by simp [TA2.out.gs.hr])))
            have S3 := Lib.hid (And.intro s3 i3)
            have G4 := Lib.hid (get_top S HMI.out HF.out hlen TB3.out k (k : Int) rfl hlt)
            have b1 : (valS S q == valS S q) = true := beq_self_eq_true _
            clear O3 t3 p3 s3 i3
            go_wp2_with fail
            refine G4.out.mono ?_
            rintro e x4 ⟨rfl, vb4, Ib4, Rb4, ub4, t4, p4, s4, i4⟩
            have O4 := TA3.out.other DI3.out TB3.out p4
            have TA4 := Lib.hid O4.1
            have TB4 := Lib.hid t4
            have DI4 := Lib.hid O4.2.1
            have HX4 := Lib.hid (HX3.out.trans (TB3.out.gs.st.keepB p4 (by simp [TB3.out.gs.hr])))
            have S4 := Lib.hid (And.intro s4 i4)
            have b2 : (valS S k == valS S k) = true := beq_self_eq_true _
            clear O4 t4 p4 s4 i4
            go_wp2_with fail
            go_roundw
            case rel => exact ⟨k + 1, va3, vb4, Ia3, Ib4, Ra3, Rb4, ua3, ub4, by omega, by go_num, TA4.out, TB4.out, DI4.out, fun j hj => by
              rcases Nat.lt_or_ge j k with h | h
              · exact ⟨S3.out.1 j (S1.out.1 j (HALL.out j h).1), S4.out.1 j (S2.out.1 j (HALL.out j h).2)⟩
              · obtain rfl : j = k := by omega
                exact ⟨S3.out.1 j S1.out.2, S4.out.2⟩, HX4.out⟩
            case measure => simp [intOf]; omega
          · have m1 : ¬ (k : Int) < (S.length : Int) := by omega
            have AA := Lib.hid (fun i (h : i < S.length) => (HALL.out i (by omega)).1)
            have AB := Lib.hid (fun i (h : i < S.length) => (HALL.out i (by omega)).2)
            have G1 := Lib.hid (behind_any S HF.out hlen A cS w.heap.size E m La Pa Ua wa ra wr va Ia Ra ua HTA.out AA.out)
            have FA : Hid ((ntsS S Ia).length = S.length) := (ntsS_len S Ia).trans (HTA.out.gs.gd.full AA.out)
            have FB : Hid ((ntsS S Ib).length = S.length) := (ntsS_len S Ib).trans (HTB.out.gs.gd.full AB.out)
            go_wp2_with fail
            refine G1.out.mono ?_
            rintro e x1 ⟨rfl, hx1⟩
            have HX1 := Lib.hid hx1
            have G2 := Lib.hid (behind_any S HF.out hlen A cS w.heap.size E m Lb Pb Ub wb rb x1 vb Ib Rb ub (HTB.out.below hx1) AB.out)
            clear hx1
            go_wp2_with fail
            refine G2.out.mono ?_
            rintro e x2 ⟨rfl, hx2⟩
            have HX2 := Lib.hid (HX1.out.trans (hx2.mono HX1.out.size))
            have TA2 := Lib.hid (HTA.out.below HX2.out)
            have TB2 := Lib.hid (HTB.out.below HX2.out)
            have j0 : x2.cell? ⟨wa, 1, none⟩ = some (.pointer (some ⟨La, 0, none⟩)) := TA2.out.gs.wb.cell 1
            have j1 : x2.cell? ⟨wb, 1, none⟩ = some (.pointer (some ⟨Lb, 0, none⟩)) := TB2.out.gs.wb.cell 1
            have j2 : x2.cell? ⟨wa, 3, none⟩ = some (.bool false) := TA2.out.gs.wb.cell 3
            have j3 : x2.cell? ⟨wb, 3, none⟩ = some (.bool false) := TB2.out.gs.wb.cell 3
            have G3 := Lib.hid (len_any w.heap.size La Pa Ua ua va _ _ _ x2 TA2.out.gs.st.led)
            clear hx2
            go_wp2_with fail
            refine G3.out.mono ?_
            rintro e x3 ⟨rfl, hx3⟩
            rw [FA.out]
            have HX3 := Lib.hid hx3
            have G4 := Lib.hid (len_any w.heap.size Lb Pb Ub ub vb _ _ _ x3 (TB2.out.below hx3).gs.st.led)
            have j4 := cellOf hx3 j1
            have b1 : ((S.length : Int) == (S.length : Int)) = true := beq_self_eq_true _
            clear j0 j1 j2 j3 hx3
            go_wp2_with fail
            refine G4.out.mono ?_
            rintro e x4 ⟨rfl, hx4⟩
            rw [FB.out]
            have HX4 := Lib.hid hx4
            clear j4 hx4
            go_wp2_with fail
            go_ret
            have hq := HX2.out.trans (HX3.out.mono HX2.out.size)
            exact ⟨rfl, HB.out.trans ((hq.trans (HX4.out.mono hq.size)).mono HB.out.size)⟩
  · have g1 : (60 : Int) < (S.length : Int) := by omega
    go_wp2_with fail
    go_ret
    exact ⟨rfl, hb1⟩

end Go.Proofs.YtodlbfekoohpoaaDoor
