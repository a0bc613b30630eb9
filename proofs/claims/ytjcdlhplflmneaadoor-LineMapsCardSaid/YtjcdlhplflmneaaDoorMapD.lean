/- The walk of LineMaps. -/
import Derived.Test.YtjcdlhplflmneaaDoorMapC
import Derived.Test.YtjcdlhplflmneaaDoorNormE
namespace Go.Proofs.YtjcdlhplflmneaaDoor
open Go.RowKit

theorem keepB9 {B : Nat} {W w1 : World} (hb : Below B W w1) {g : Nat} {x : Obj} (hg : g < B) (h : W.heap[g]? = some x) : Hid (w1.heap[g]? = some x) := (hb.block g hg).trans h

set_option maxRecDepth 100000 in
set_option maxHeartbeats 16000000 in
theorem maps_many (l : List (Pc Int)) (A : Option Addr) (c : Nat) (w : World) (h2 : 200 < l.length) :
    Calls Tryd.prog 8 #[.slice A l.length c] w fun e w' => e = .returned (.bool true) ∧ Below w.heap.size w w' := by
  have hd : decide ((200 : Int) < (l.length : Int)) = true := decide_eq_true (by omega)
  go_enter Tryd.func8, Tryd.ntmps8
  go_wp2_with fail
  refine (first6_any _).mono ?_
  rintro e w1 ⟨rfl, hb1⟩
  have hw1 : Below w.heap.size w w1 := stepH (by (repeat' (first | with_reducible exact Below.refl _ _ | with_reducible assumption | with_reducible refine Below.drew ?_ | with_reducible refine below_drewN ?_ _ | with_reducible refine Below.setCell ?_ ?_ _ | with_reducible refine Below.alloc ?_ ?_ _ | omega | (simp; done) | (simp; omega)))) hb1
  clear hb1
  go_wp2_with fail
  refine (known_many l A c _ h2).mono ?_
  rintro e w2 ⟨rfl, hb2⟩
  have hw2 : Below w.heap.size w w2 := stepH (by (repeat' (first | with_reducible exact Below.refl _ _ | with_reducible assumption | with_reducible refine Below.drew ?_ | with_reducible refine below_drewN ?_ _ | with_reducible refine Below.setCell ?_ ?_ _ | with_reducible refine Below.alloc ?_ ?_ _ | omega | (simp; done) | (simp; omega)))) hb2
  clear hb2 hw1
  go_wp2_with fail
  go_ret
  exact ⟨rfl, hw2⟩

set_option maxRecDepth 100000 in
set_option maxHeartbeats 16000000 in
theorem maps_bad (l : List (Pc Int)) (A : Option Addr) (c : Nat) (w : World) (hl : RowAt encP 3 w w.heap.size A l) (h2 : l.length ≤ 200) (hb : ∃ p ∈ l, ¬ ValidP MD p) :
    Calls Tryd.prog 8 #[.slice A l.length c] w fun e w' => e = .returned (.bool true) ∧ Below w.heap.size w w' := by
  have hd : decide ((200 : Int) < (l.length : Int)) = false := decide_eq_false (by omega)
  have HL := Lib.hid hl
  have HB := Lib.hid hb
  clear hl hb
  go_enter Tryd.func8, Tryd.ntmps8
  go_wp2_with fail
  refine (first6_any _).mono ?_
  rintro e w1 ⟨rfl, hb1⟩
  have hw1 : Below w.heap.size w w1 := stepH (by (repeat' (first | with_reducible exact Below.refl _ _ | with_reducible assumption | with_reducible refine Below.drew ?_ | with_reducible refine below_drewN ?_ _ | with_reducible refine Below.setCell ?_ ?_ _ | with_reducible refine Below.alloc ?_ ?_ _ | omega | (simp; done) | (simp; omega)))) hb1
  clear hb1
  go_wp2_with fail
  refine (known_bad l A c _ ((HL.out.below hw1 (Nat.le_refl _)).more hw1.size) h2 HB.out).mono ?_
  rintro e w2 ⟨rfl, hb2⟩
  have hw2 : Below w.heap.size w w2 := stepH (by (repeat' (first | with_reducible exact Below.refl _ _ | with_reducible assumption | with_reducible refine Below.drew ?_ | with_reducible refine below_drewN ?_ _ | with_reducible refine Below.setCell ?_ ?_ _ | with_reducible refine Below.alloc ?_ ?_ _ | omega | (simp; done) | (simp; omega)))) hb2
  clear hb2 hw1
  go_wp2_with fail
  go_ret
  exact ⟨rfl, hw2⟩

set_option maxRecDepth 100000 in
set_option maxHeartbeats 32000000 in
theorem maps_good (l : List (Pc Int)) (A : Option Addr) (c : Nat) (w : World) (hl : RowAt encP 3 w w.heap.size A l) (h1 : l.length ≤ 200) (hv : ∀ p ∈ l, ValidP MD p) :
    Calls Tryd.prog 8 #[.slice A l.length c] w fun e w' => e = .returned (.bool true) ∧ Below w.heap.size w w' := by
  have HL := Lib.hid hl
  have HV := Lib.hid hv
  obtain ⟨inf0, hi, jz0, jz1, jz2⟩ := info_parts infoR6
  have hd : decide ((200 : Int) < (l.length : Int)) = false := decide_eq_false (by omega)
  clear hl hv
  go_enter Tryd.func8, Tryd.ntmps8
  go_wp2_with fail
  refine (first6_any _).mono ?_
  rintro e w1 ⟨rfl, hb1⟩
  have hw1 : Below w.heap.size w w1 := stepH (by (repeat' (first | with_reducible exact Below.refl _ _ | with_reducible assumption | with_reducible refine Below.drew ?_ | with_reducible refine below_drewN ?_ _ | with_reducible refine Below.setCell ?_ ?_ _ | with_reducible refine Below.alloc ?_ ?_ _ | omega | (simp; done) | (simp; omega)))) hb1
  clear hb1
  go_wp2_with fail
  refine (known_ok l A c _ ((HL.out.below hw1 (Nat.le_refl _)).more hw1.size) h1 HV.out).mono ?_
  rintro e w2 ⟨⟨A2, c2, x, rfl, hrow2, hmx⟩, hb2⟩
  have hw2 : Below w.heap.size w w2 := stepH (by (repeat' (first | with_reducible exact Below.refl _ _ | with_reducible assumption | with_reducible refine Below.drew ?_ | with_reducible refine below_drewN ?_ _ | with_reducible refine Below.setCell ?_ ?_ _ | with_reducible refine Below.alloc ?_ ?_ _ | omega | (simp; done) | (simp; omega)))) hb2
  have z2 := hw2.size
  have HX := Lib.hid hrow2
  have HMX := Lib.hid hmx
  have hxl : x.length ≤ 400 := by have h := hmx.len; omega
  clear hb2 hw1 hrow2 hmx
  go_wp2_with fail
  refine (piecesL_any l A c _ ((HL.out.below hw2 (Nat.le_refl _)).more hw2.size) (by omega)).mono ?_
  rintro e w4 ⟨⟨A4, c4, rfl, hrow4⟩, hb4⟩
  have hw4 : Below w.heap.size w w4 := stepH (by (repeat' (first | with_reducible exact Below.refl _ _ | with_reducible assumption | with_reducible refine Below.drew ?_ | with_reducible refine below_drewN ?_ _ | with_reducible refine Below.setCell ?_ ?_ _ | with_reducible refine Below.alloc ?_ ?_ _ | omega | (simp; done) | (simp; omega)))) hb4
  have hv4 : Below w2.heap.size w2 w4 := hb4
  clear hb4
  go_wp2_with fail
  refine (make6_ok l A4 c4 _ hrow4 (by omega) HV.out).mono ?_
  rintro e w5 ⟨⟨A5, c5, x5, rfl, hrow5, hA5, hm5⟩, hb5⟩
  obtain rfl := hm5.uniq HMX.out
  have hw5 : Below w.heap.size w w5 := stepH (by (repeat' (first | with_reducible exact Below.refl _ _ | with_reducible assumption | with_reducible refine Below.drew ?_ | with_reducible refine below_drewN ?_ _ | with_reducible refine Below.setCell ?_ ?_ _ | with_reducible refine Below.alloc ?_ ?_ _ | omega | (simp; done) | (simp; omega)))) hb5
  have hv5 : Below w2.heap.size w2 w5 := stepH (by (repeat' (first | with_reducible exact Below.refl _ _ | with_reducible assumption | with_reducible refine Below.drew ?_ | with_reducible refine below_drewN ?_ _ | with_reducible refine Below.setCell ?_ ?_ _ | with_reducible refine Below.alloc ?_ ?_ _ | omega | (simp; done) | (simp; omega)))) hb5
  have z5 := hw5.size
  have zv5 := hv5.size
  have HR5 := Lib.hid hrow5
  have HA5 := Lib.hid hA5
  clear hb5 hw4 hv4 hrow4 hrow5 hm5 hA5
  go_wp2_with fail
  have TA : Hid ((w5.alloc (.cells #[.slice A5 x5.length c5] 61)).heap[w5.heap.size]? = some (.cells #[.slice A5 x5.length c5] 61 (0, 0))) := blk_new rfl
  have hw6 : Below w.heap.size w (w5.alloc (.cells #[.slice A5 x5.length c5] 61)) := by (repeat' (first | with_reducible exact Below.refl _ _ | with_reducible assumption | with_reducible refine Below.drew ?_ | with_reducible refine below_drewN ?_ _ | with_reducible refine Below.setCell ?_ ?_ _ | with_reducible refine Below.alloc ?_ ?_ _ | omega | (simp; done) | (simp; omega)))
  have hv6 : Below w2.heap.size w2 (w5.alloc (.cells #[.slice A5 x5.length c5] 61)) := by (repeat' (first | with_reducible exact Below.refl _ _ | with_reducible assumption | with_reducible refine Below.drew ?_ | with_reducible refine below_drewN ?_ _ | with_reducible refine Below.setCell ?_ ?_ _ | with_reducible refine Below.alloc ?_ ?_ _ | omega | (simp; done) | (simp; omega)))
  have hu6 : Below w5.heap.size w5 (w5.alloc (.cells #[.slice A5 x5.length c5] 61)) := by (repeat' (first | with_reducible exact Below.refl _ _ | with_reducible assumption | with_reducible refine Below.drew ?_ | with_reducible refine below_drewN ?_ _ | with_reducible refine Below.setCell ?_ ?_ _ | with_reducible refine Below.alloc ?_ ?_ _ | omega | (simp; done) | (simp; omega)))
  obtain ⟨ta, hta⟩ : ∃ ta, w5.heap.size = ta := ⟨_, rfl⟩
  have lta : ta < (w5.alloc (.cells #[.slice A5 x5.length c5] 61)).heap.size := by simp [hta]
  clear hw5 hv5
  generalize (w5.alloc (.cells #[.slice A5 x5.length c5] 61)) = w6 at *
  rw [hta] at TA ⊢
  go_loopw [8, 9] (fun u i wr => ∃ k : Nat, k ≤ x5.length ∧ i = .int .i64 k ∧ Own encP 3 81 w6.heap.size wr u (mapP (fun v : Int => v / 2) (x5.take k)) ∧ Below w6.heap.size w6 wr) (fun _ i _ => x5.length - (intOf i).toNat)
  case atStart => exact ⟨0, Nat.zero_le _, rfl, Own.nil, Below.refl _ _⟩
  case round =>
    obtain ⟨k, hk, rfl, hown, hwr⟩ := hrel
    have zr := hwr.size
    have hw0 : Below w.heap.size w wr := stepH hw6 hwr
    have HO := Lib.hid hown
    have hlen : (mapP (fun v : Int => v / 2) (x5.take k)).length = k := by rw [mapP_len, List.length_take]; omega
    clear hown
    by_cases hlt : k < x5.length
    · obtain ⟨p, hp⟩ : ∃ p, x5[k]? = some p := ⟨x5[k], List.getElem?_eq_getElem hlt⟩
      have hg3 : ∀ a, A2 = some a → a.block < w6.heap.size := fun a ha => by obtain ⟨_, _, e0, h9, _⟩ := HX.out k p hp; rw [ha] at e0; cases e0; have := hv6.size; dsimp only; omega
      obtain ⟨g, off, rfl, hg, j0, j1, j2⟩ := cells3 ((HX.out.below hv6 (Nat.le_refl _)).below hwr hv6.size) hp
      have hg4 : g < w6.heap.size := hg3 _ rfl
      have hlt2 : (k : Int) < (x5.length : Int) := by omega
      have HP := Lib.hid hp
      clear hp hg3
      go_wp2_with fail
      go_region_held_law (fun w' => w'.cell? ⟨g, off + k * 3, none⟩ = some (.int .i64 p.f) ∧ w'.cell? ⟨g, off + k * 3 + 1, none⟩ = some (.int .i64 p.t) ∧ w'.cell? ⟨g, off + k * 3 + 2, none⟩ = some (.int .i64 p.v)) (first | with_reducible exact ⟨j0, j1, j2⟩ | go_keep | exact ⟨(World.grownBy.cell_far hgrow9 ⟨g, off + k * 3, none⟩ (by simp; omega) (fun e => by have h9 := (HO.out.lt _ e.symm).1; dsimp only at h9; omega)).trans (cell_drew (cell_alloc j0)), (World.grownBy.cell_far hgrow9 ⟨g, off + k * 3 + 1, none⟩ (by simp; omega) (fun e => by have h9 := (HO.out.lt _ e.symm).1; dsimp only at h9; omega)).trans (cell_drew (cell_alloc j1)), (World.grownBy.cell_far hgrow9 ⟨g, off + k * 3 + 2, none⟩ (by simp; omega) (fun e => by have h9 := (HO.out.lt _ e.symm).1; dsimp only at h9; omega)).trans (cell_drew (cell_alloc j2))⟩)
        ((refine step_append_any (by rfl) (.tmp 47) (.tmp 65) 66 (by rfl) w6.heap.size 81 inf0 _ 3 24 Tryd.underlying66 hi jz0 jz1 jz2 rfl (by decide) _ (mapP (fun v : Int => v / 2) (x5.take k)).length _ (by rfl) ((HO.out.alloc _).drew) (some ⟨wr.heap.size, 0, none⟩) 1 1 [.int .i64 p.f, .int .i64 p.t, .int .i64 (p.v / 2)] (by rfl) rfl (fun ad ha j u hj => by cases ha; exact cell_drew (World.news_of_block (cs := #[.int .i64 p.f, .int .i64 p.t, .int .i64 (p.v / 2)]) (blk_new rfl) j u hj)) (fun h => by cases h) (by simp [Value.oneCell']) (by rw [hlen]; unfold maxLen; omega) (by rw [hlen]; omega) (by simp; omega) ?_; intro v' w9 hown9 hgrow9))
      go_wp2_with fail
      go_roundw
      case rel =>
        refine ⟨k + 1, by omega, by go_num, ?_, Below.grown (by (repeat' (first | with_reducible exact Below.refl _ _ | with_reducible assumption | with_reducible refine Below.drew ?_ | with_reducible refine below_drewN ?_ _ | with_reducible refine Below.setCell ?_ ?_ _ | with_reducible refine Below.alloc ?_ ?_ _ | omega | (simp; done) | (simp; omega)))) hgrow9 (by simp; omega) (fun g hg => (HO.out.lt g hg).1)⟩
        rw [mapP_snoc HP.out]
        exact Own.snoc hown9 rfl (by simp [encP])
      case measure => simp [intOf]; omega
    · obtain rfl : k = x5.length := by omega
      obtain ⟨A7, c7, rfl, hr7, _, _⟩ := own_line (fun x _ => encP_len x) HO.out
      have HR7 := Lib.hid hr7
      rw [List.take_length] at HR7 ⊢
      have TAr := keepB9 hwr lta TA.out
      have hur : Below w5.heap.size w5 wr := hu6.trans (hwr.mono (by omega))
      have hvr : Below w2.heap.size w2 wr := hv6.trans (hwr.mono hv6.size)
      have cT := cellH TAr
      clear hr7 HO hlen
      go_wp2_with fail
      refine (mapI_any x5 A5 c5 wr ((HR5.out.below hur (Nat.le_refl _)).more hur.size) (by omega)).mono ?_
      rintro e w8 ⟨⟨A8, c8, rfl, hr8, hA8⟩, hb8⟩
      have hmh := mapped_made (fun v : Int => v / 2) HMX.out.canon
      have hvm := mapped_valid (fun v : Int => v / 2) HMX.out.canon
      have hml : (mapP (fun v : Int => v / 2) x5).length = x5.length := mapP_len _ _
      have hjl := joinedL_len (mapP (fun v : Int => v / 2) x5)
      have HML := Lib.hid hml
      clear hml
      generalize joinedL (mapP (fun v : Int => v / 2) x5) = hj at *
      generalize mapP (fun v : Int => v / 2) x5 = mp at *
      have hw8 : Below w.heap.size w w8 := stepH hw0 hb8
      have hu8 : Below w5.heap.size w5 w8 := stepH hur hb8
      have hv8 : Below w2.heap.size w2 w8 := stepH hvr hb8
      have hx8 : Below wr.heap.size wr w8 := hb8
      have z8 := hw8.size
      have zu8 := hu8.size
      have zv8 := hv8.size
      have TA8 := keepH hb8 TAr.out
      have HR8 := Lib.hid hr8
      have HA8 := Lib.hid hA8
      have HMH := Lib.hid hmh
      have HVM := Lib.hid hvm
      clear hb8 hr8 hA8 hmh hvm hw0 hur hvr cT TAr
      go_wp2_with fail
      have TB : Hid ((w8.alloc (.cells #[.slice A8 hj.length c8] 61)).heap[w8.heap.size]? = some (.cells #[.slice A8 hj.length c8] 61 (0, 0))) := blk_new rfl
      have TA9 := Lib.hid (blk_old (o := .cells #[.slice A8 hj.length c8] 61) TA8.out)
      have hw9 : Below w.heap.size w (w8.alloc (.cells #[.slice A8 hj.length c8] 61)) := by (repeat' (first | with_reducible exact Below.refl _ _ | with_reducible assumption | with_reducible refine Below.drew ?_ | with_reducible refine below_drewN ?_ _ | with_reducible refine Below.setCell ?_ ?_ _ | with_reducible refine Below.alloc ?_ ?_ _ | omega | (simp; done) | (simp; omega)))
      have hu9 : Below w5.heap.size w5 (w8.alloc (.cells #[.slice A8 hj.length c8] 61)) := by (repeat' (first | with_reducible exact Below.refl _ _ | with_reducible assumption | with_reducible refine Below.drew ?_ | with_reducible refine below_drewN ?_ _ | with_reducible refine Below.setCell ?_ ?_ _ | with_reducible refine Below.alloc ?_ ?_ _ | omega | (simp; done) | (simp; omega)))
      have hv9 : Below w2.heap.size w2 (w8.alloc (.cells #[.slice A8 hj.length c8] 61)) := by (repeat' (first | with_reducible exact Below.refl _ _ | with_reducible assumption | with_reducible refine Below.drew ?_ | with_reducible refine below_drewN ?_ _ | with_reducible refine Below.setCell ?_ ?_ _ | with_reducible refine Below.alloc ?_ ?_ _ | omega | (simp; done) | (simp; omega)))
      have zx8 := hx8.size
      have hx9 : Below wr.heap.size wr (w8.alloc (.cells #[.slice A8 hj.length c8] 61)) := by (repeat' (first | with_reducible exact Below.refl _ _ | with_reducible assumption | with_reducible refine Below.drew ?_ | with_reducible refine below_drewN ?_ _ | with_reducible refine Below.setCell ?_ ?_ _ | with_reducible refine Below.alloc ?_ ?_ _ | omega | (simp; done) | (simp; omega)))
      have hy9 : Below w8.heap.size w8 (w8.alloc (.cells #[.slice A8 hj.length c8] 61)) := by (repeat' (first | with_reducible exact Below.refl _ _ | with_reducible assumption | with_reducible refine Below.drew ?_ | with_reducible refine below_drewN ?_ _ | with_reducible refine Below.setCell ?_ ?_ _ | with_reducible refine Below.alloc ?_ ?_ _ | omega | (simp; done) | (simp; omega)))
      obtain ⟨tb, htb⟩ : ∃ tb, w8.heap.size = tb := ⟨_, rfl⟩
      clear hw8 hu8 hv8 hx8 TA8
      generalize (w8.alloc (.cells #[.slice A8 hj.length c8] 61)) = w9 at *
      rw [htb] at TB ⊢
      have y0 : w9.cell? ⟨tb, 0, none⟩ = some (.slice A8 hj.length c8) := cellH TB 0
      have zw9 := hw9.size
      have zx9 := hx9.size
      go_region_held3 (fun w' => w'.cell? ⟨tb, 0, none⟩ = some (.slice A8 hj.length c8)) (first | with_reducible exact y0 | go_keep)
        (first
          | (go_at_call 42; refine (norm6_any mp A7 c7 _ ((HR7.out.below (by (repeat' (first | with_reducible exact Below.refl _ _ | with_reducible assumption | with_reducible refine Below.drew ?_ | with_reducible refine below_drewN ?_ _ | with_reducible refine Below.setCell ?_ ?_ _ | with_reducible refine Below.alloc ?_ ?_ _ | omega | (simp; done) | (simp; omega)))) (Nat.le_refl _)).more (by first | exact zx9 | (simp; omega))) (by have := HML.out; omega) HVM.out).mono ?_; rintro e w10 ⟨⟨A10, c10, mm, rfl, hr10, hmm⟩, hb10⟩; obtain rfl := hmm.uniq HMH.out; have HR10 := Lib.hid hr10; replace hw9 : Below w.heap.size w w10 := stepH (by (repeat' (first | with_reducible exact Below.refl _ _ | with_reducible assumption | with_reducible refine Below.drew ?_ | with_reducible refine below_drewN ?_ _ | with_reducible refine Below.setCell ?_ ?_ _ | with_reducible refine Below.alloc ?_ ?_ _ | omega | (simp; done) | (simp; omega)))) hb10; replace hu9 : Below w5.heap.size w5 w10 := stepH (by (repeat' (first | with_reducible exact Below.refl _ _ | with_reducible assumption | with_reducible refine Below.drew ?_ | with_reducible refine below_drewN ?_ _ | with_reducible refine Below.setCell ?_ ?_ _ | with_reducible refine Below.alloc ?_ ?_ _ | omega | (simp; done) | (simp; omega)))) hb10; replace hv9 : Below w2.heap.size w2 w10 := stepH (by (repeat' (first | with_reducible exact Below.refl _ _ | with_reducible assumption | with_reducible refine Below.drew ?_ | with_reducible refine below_drewN ?_ _ | with_reducible refine Below.setCell ?_ ?_ _ | with_reducible refine Below.alloc ?_ ?_ _ | omega | (simp; done) | (simp; omega)))) hb10; replace hy9 : Below w8.heap.size w8 w10 := stepH (by (repeat' (first | with_reducible exact Below.refl _ _ | with_reducible assumption | with_reducible refine Below.drew ?_ | with_reducible refine below_drewN ?_ _ | with_reducible refine Below.setCell ?_ ?_ _ | with_reducible refine Below.alloc ?_ ?_ _ | omega | (simp; done) | (simp; omega)))) hb10; replace TA9 := keepH hb10 (by first | exact TA9.out | exact drew_old TA9.out); replace y0 := cellOf hb10 (by first | exact y0 | exact cell_drew y0); clear hb10 hr10 hmm)
          | (go_at_call 38; refine (is6_yes mm mm.length A8 A10 c8 c10 _ rfl ((HR8.out.below (by (repeat' (first | with_reducible exact Below.refl _ _ | with_reducible assumption | with_reducible refine Below.drew ?_ | with_reducible refine below_drewN ?_ _ | with_reducible refine Below.setCell ?_ ?_ _ | with_reducible refine Below.alloc ?_ ?_ _ | omega | (simp; done) | (simp; omega)))) (Nat.le_refl _)).more (by have := hy9.size; first | exact this | (simp; omega))) ((HR10.out.below (by (repeat' (first | with_reducible exact Below.refl _ _ | with_reducible assumption | with_reducible refine Below.drew ?_ | with_reducible refine below_drewN ?_ _ | with_reducible refine Below.setCell ?_ ?_ _ | with_reducible refine Below.alloc ?_ ?_ _ | omega | (simp; done) | (simp; omega)))) (Nat.le_refl _)).more (by first | exact Nat.le_refl _ | (simp; omega))) (by have := HML.out; omega) HA8.out).mono ?_; rintro e w11 ⟨rfl, hb11⟩; replace hw9 : Below w.heap.size w w11 := stepH (by (repeat' (first | with_reducible exact Below.refl _ _ | with_reducible assumption | with_reducible refine Below.drew ?_ | with_reducible refine below_drewN ?_ _ | with_reducible refine Below.setCell ?_ ?_ _ | with_reducible refine Below.alloc ?_ ?_ _ | omega | (simp; done) | (simp; omega)))) hb11; replace hu9 : Below w5.heap.size w5 w11 := stepH (by (repeat' (first | with_reducible exact Below.refl _ _ | with_reducible assumption | with_reducible refine Below.drew ?_ | with_reducible refine below_drewN ?_ _ | with_reducible refine Below.setCell ?_ ?_ _ | with_reducible refine Below.alloc ?_ ?_ _ | omega | (simp; done) | (simp; omega)))) hb11; replace hv9 : Below w2.heap.size w2 w11 := stepH (by (repeat' (first | with_reducible exact Below.refl _ _ | with_reducible assumption | with_reducible refine Below.drew ?_ | with_reducible refine below_drewN ?_ _ | with_reducible refine Below.setCell ?_ ?_ _ | with_reducible refine Below.alloc ?_ ?_ _ | omega | (simp; done) | (simp; omega)))) hb11; replace TA9 := keepH hb11 (by first | exact TA9.out | exact drew_old TA9.out); replace y0 := cellOf hb11 (by first | exact y0 | exact cell_drew y0); clear hb11))
      have cTA := cellH TA9
      have zu9 := hu9.size
      go_wp2_with fail
      refine (mapW_any x5 A5 c5 _ ((HR5.out.below hu9 (Nat.le_refl _)).more zu9) (by omega)).mono ?_
      rintro e w12 ⟨⟨A12, c12, rfl, hr12, hA12⟩, hb12⟩
      have HPV := Lib.hid (word_at HMX.out.canon)
      have HNG := Lib.hid (noGone_len (l := x5))
      have hpl := joinedL_len (mapP cd x5)
      rw [mapP_len] at hpl
      generalize joinedL (mapP cd x5) = pw at *
      have hw12 : Below w.heap.size w w12 := stepH hw9 hb12
      have hu12 : Below w5.heap.size w5 w12 := stepH hu9 hb12
      have hv12 : Below w2.heap.size w2 w12 := stepH hv9 hb12
      have TA12 := keepH hb12 TA9.out
      have zw12 := hw12.size
      have zu12 := hu12.size
      have zv12 := hv12.size
      have HR12 := Lib.hid hr12
      have HA12 := Lib.hid hA12
      clear hb12 hr12 hA12 hw9 hu9 hv9 TA9 cTA y0 TB hy9 hx9
      go_wp2_with fail
      refine (piecesW_any pw A12 c12 _ ((HR12.out.below (w' := w12.alloc (.cells #[.slice A12 pw.length c12] 94)) (by (repeat' (first | with_reducible exact Below.refl _ _ | with_reducible assumption | with_reducible refine Below.drew ?_ | with_reducible refine below_drewN ?_ _ | with_reducible refine Below.setCell ?_ ?_ _ | with_reducible refine Below.alloc ?_ ?_ _ | omega | (simp; done) | (simp; omega)))) (Nat.le_refl _)).more (by simp)) (by omega) HA12.out).mono ?_
      rintro e w14 ⟨v14, rfl, hown14, hb14⟩
      obtain ⟨A14, c14, rfl, hr14, _, _⟩ := own_line (fun x _ => encW_len x) hown14
      have hw13 : Below w.heap.size w (w12.alloc (.cells #[.slice A12 pw.length c12] 94)) := by (repeat' (first | with_reducible exact Below.refl _ _ | with_reducible assumption | with_reducible refine Below.drew ?_ | with_reducible refine below_drewN ?_ _ | with_reducible refine Below.setCell ?_ ?_ _ | with_reducible refine Below.alloc ?_ ?_ _ | omega | (simp; done) | (simp; omega)))
      have hw14 : Below w.heap.size w w14 := stepH hw13 hb14
      have hu13 : Below w5.heap.size w5 (w12.alloc (.cells #[.slice A12 pw.length c12] 94)) := by (repeat' (first | with_reducible exact Below.refl _ _ | with_reducible assumption | with_reducible refine Below.drew ?_ | with_reducible refine below_drewN ?_ _ | with_reducible refine Below.setCell ?_ ?_ _ | with_reducible refine Below.alloc ?_ ?_ _ | omega | (simp; done) | (simp; omega)))
      have hu14 : Below w5.heap.size w5 w14 := stepH hu13 hb14
      have hv13 : Below w2.heap.size w2 (w12.alloc (.cells #[.slice A12 pw.length c12] 94)) := by (repeat' (first | with_reducible exact Below.refl _ _ | with_reducible assumption | with_reducible refine Below.drew ?_ | with_reducible refine below_drewN ?_ _ | with_reducible refine Below.setCell ?_ ?_ _ | with_reducible refine Below.alloc ?_ ?_ _ | omega | (simp; done) | (simp; omega)))
      have hv14 : Below w2.heap.size w2 w14 := stepH hv13 hb14
      have TA14 := keepH hb14 (blk_old (o := (.cells #[.slice A12 pw.length c12] 94)) TA12.out)
      have HPL := Lib.hid hr14
      have zv14 := hv14.size
      clear hb14 hr14 hw12 hu12 hv12 TA12 hown14 hw13 hu13 hv13
      by_cases hpe : pw.length = x5.length
      · have e1 : ((pw.length : Int) == (x5.length : Int)) = true := by simp [hpe]
        have e2 : ((pw.length : Int) != (x5.length : Int)) = false := by simp [hpe]
        clear hpe e1
        go_wp2_with fail
        go_loopw [14] (fun i wr => ∃ k : Nat, k ≤ pw.length ∧ i = .int .i64 k ∧ Below w14.heap.size w14 wr) (fun i _ => pw.length - (intOf i).toNat)
        case atStart => exact ⟨0, Nat.zero_le _, rfl, Below.refl _ _⟩
        case round =>
          obtain ⟨k, hk, rfl, hwr⟩ := hrel
          have hw0 : Below w.heap.size w wr := stepH hw14 hwr
          have hu0 : Below w5.heap.size w5 wr := stepH hu14 hwr
          have x0 : wr.cell? ⟨ta, 0, none⟩ = some (.slice A5 x5.length c5) := cellH (keepH hwr TA14.out) 0
          by_cases hlt : k < pw.length
          · obtain ⟨z, hz⟩ : ∃ z, pw[k]? = some z := ⟨pw[k], List.getElem?_eq_getElem hlt⟩
            obtain ⟨g, off, rfl, hg, j0, j1, j2⟩ := cells3W (HPL.out.below hwr (Nat.le_refl _)) hz
            have hlt2 : (k : Int) < (pw.length : Int) := by omega
            obtain ⟨v, hv1, hv2⟩ := HPV.out z (List.mem_of_getElem? hz)
            have HV1 := Lib.hid hv1
            have HV2 := Lib.hid hv2
            clear hz hv1 hv2
            go_wp2_with fail
            go_region_held3 (fun w' => w'.cell? ⟨ta, 0, none⟩ = some (.slice A5 x5.length c5) ∧ w'.cell? ⟨g, off + k * 3, none⟩ = some (.int .i64 z.f) ∧ w'.cell? ⟨g, off + k * 3 + 2, none⟩ = some (.string (wS z.v))) (first | with_reducible exact ⟨x0, j0, j2⟩ | go_keep)
              (first | (go_at_call 34; refine (At6_any x5 A5 c5 z.f _ ((HR5.out.below (by (repeat' (first | with_reducible exact Below.refl _ _ | with_reducible assumption | with_reducible refine Below.drew ?_ | with_reducible refine below_drewN ?_ _ | with_reducible refine Below.setCell ?_ ?_ _ | with_reducible refine Below.alloc ?_ ?_ _ | omega | (simp; done) | (simp; omega)))) (Nat.le_refl _)).more (by have := hu0.size; first | exact this | (simp; omega))) (by omega) 0 HMX.out.canon.rise).mono ?_; rintro e w21 ⟨rfl, hb21⟩; rw [HV1.out]; replace hw0 : Below w.heap.size w w21 := stepH (by (repeat' (first | with_reducible exact Below.refl _ _ | with_reducible assumption | with_reducible refine Below.drew ?_ | with_reducible refine below_drewN ?_ _ | with_reducible refine Below.setCell ?_ ?_ _ | with_reducible refine Below.alloc ?_ ?_ _ | omega | (simp; done) | (simp; omega)))) hb21; replace hu0 : Below w5.heap.size w5 w21 := stepH (by (repeat' (first | with_reducible exact Below.refl _ _ | with_reducible assumption | with_reducible refine Below.drew ?_ | with_reducible refine below_drewN ?_ _ | with_reducible refine Below.setCell ?_ ?_ _ | with_reducible refine Below.alloc ?_ ?_ _ | omega | (simp; done) | (simp; omega)))) hb21; replace hwr : Below w14.heap.size w14 w21 := stepH (by (repeat' (first | with_reducible exact Below.refl _ _ | with_reducible assumption | with_reducible refine Below.drew ?_ | with_reducible refine below_drewN ?_ _ | with_reducible refine Below.setCell ?_ ?_ _ | with_reducible refine Below.alloc ?_ ?_ _ | omega | (simp; done) | (simp; omega)))) hb21; replace x0 := cellOf hb21 (by first | exact x0 | exact cell_drew x0); replace j0 := cellOf hb21 (by first | exact j0 | exact cell_drew j0); replace j2 := cellOf hb21 (by first | exact j2 | exact cell_drew j2); clear hb21))
            have e1 : vB6 (some v) = true := rfl
            have e2 : vN (some v) = v := rfl
            have e3 : ((wS z.v).toList != (wS z.v).toList) = false := by rw [bne, wS_self]; rfl
            try rw [e1, e2]
            go_wp2_with fail
            go_region_held3 (fun w' => w'.cell? ⟨g, off + k * 3 + 2, none⟩ = some (.string (wS z.v))) (first | with_reducible exact j2 | go_keep)
              (first | (go_at_call 47; refine (word_any v _).mono ?_; rintro e w22 ⟨rfl, rfl⟩; rw [HV2.out]))
            go_wp2_with fail
            go_roundw
            case rel => exact ⟨k + 1, by omega, by go_num, by (repeat' (first | with_reducible exact Below.refl _ _ | with_reducible assumption | with_reducible refine Below.drew ?_ | with_reducible refine below_drewN ?_ _ | with_reducible refine Below.setCell ?_ ?_ _ | with_reducible refine Below.alloc ?_ ?_ _ | omega | (simp; done) | (simp; omega)))⟩
            case measure => simp [intOf]; omega
          · obtain rfl : k = pw.length := by omega
            go_wp2_with fail
            go_ret
            exact ⟨rfl, hw0⟩
      · have e1 : ((pw.length : Int) == (x5.length : Int)) = false := by rw [beq_eq_false_iff_ne]; omega
        have e2 : ((pw.length : Int) != (x5.length : Int)) = true := by rw [bne_iff_ne]; omega
        go_wp2_with fail
        refine (gone_any x5 A2 c2 _ ((HX.out.below hv14 (Nat.le_refl _)).more zv14) (by omega)).mono ?_
        rintro e w15 ⟨⟨b, rfl, hgn⟩, hb15⟩
        obtain rfl : b = true := by
          cases b with
          | true => rfl
          | false => exact absurd (HNG.out (hgn rfl)) hpe
        have hw15 : Below w.heap.size w w15 := stepH hw14 hb15
        have hu15 : Below w5.heap.size w5 w15 := stepH hu14 hb15
        have TA15 := keepH hb15 TA14.out
        have HPL5 := Lib.hid ((HPL.out.below hb15 (Nat.le_refl _)).more hb15.size)
        clear hb15 hgn
        clear hpe e1
        go_wp2_with fail
        go_loopw [14] (fun i wr => ∃ k : Nat, k ≤ pw.length ∧ i = .int .i64 k ∧ Below w15.heap.size w15 wr) (fun i _ => pw.length - (intOf i).toNat)
        case atStart => exact ⟨0, Nat.zero_le _, rfl, Below.refl _ _⟩
        case round =>
          obtain ⟨k, hk, rfl, hwr⟩ := hrel
          have hw0 : Below w.heap.size w wr := stepH hw15 hwr
          have hu0 : Below w5.heap.size w5 wr := stepH hu15 hwr
          have x0 : wr.cell? ⟨ta, 0, none⟩ = some (.slice A5 x5.length c5) := cellH (keepH hwr TA15.out) 0
          by_cases hlt : k < pw.length
          · obtain ⟨z, hz⟩ : ∃ z, pw[k]? = some z := ⟨pw[k], List.getElem?_eq_getElem hlt⟩
            obtain ⟨g, off, rfl, hg, j0, j1, j2⟩ := cells3W (HPL5.out.below hwr (Nat.le_refl _)) hz
            have hlt2 : (k : Int) < (pw.length : Int) := by omega
            obtain ⟨v, hv1, hv2⟩ := HPV.out z (List.mem_of_getElem? hz)
            have HV1 := Lib.hid hv1
            have HV2 := Lib.hid hv2
            clear hz hv1 hv2
            go_wp2_with fail
            go_region_held3 (fun w' => w'.cell? ⟨ta, 0, none⟩ = some (.slice A5 x5.length c5) ∧ w'.cell? ⟨g, off + k * 3, none⟩ = some (.int .i64 z.f) ∧ w'.cell? ⟨g, off + k * 3 + 2, none⟩ = some (.string (wS z.v))) (first | with_reducible exact ⟨x0, j0, j2⟩ | go_keep)
              (first | (go_at_call 34; refine (At6_any x5 A5 c5 z.f _ ((HR5.out.below (by (repeat' (first | with_reducible exact Below.refl _ _ | with_reducible assumption | with_reducible refine Below.drew ?_ | with_reducible refine below_drewN ?_ _ | with_reducible refine Below.setCell ?_ ?_ _ | with_reducible refine Below.alloc ?_ ?_ _ | omega | (simp; done) | (simp; omega)))) (Nat.le_refl _)).more (by have := hu0.size; first | exact this | (simp; omega))) (by omega) 0 HMX.out.canon.rise).mono ?_; rintro e w21 ⟨rfl, hb21⟩; rw [HV1.out]; replace hw0 : Below w.heap.size w w21 := stepH (by (repeat' (first | with_reducible exact Below.refl _ _ | with_reducible assumption | with_reducible refine Below.drew ?_ | with_reducible refine below_drewN ?_ _ | with_reducible refine Below.setCell ?_ ?_ _ | with_reducible refine Below.alloc ?_ ?_ _ | omega | (simp; done) | (simp; omega)))) hb21; replace hu0 : Below w5.heap.size w5 w21 := stepH (by (repeat' (first | with_reducible exact Below.refl _ _ | with_reducible assumption | with_reducible refine Below.drew ?_ | with_reducible refine below_drewN ?_ _ | with_reducible refine Below.setCell ?_ ?_ _ | with_reducible refine Below.alloc ?_ ?_ _ | omega | (simp; done) | (simp; omega)))) hb21; replace hwr : Below w15.heap.size w15 w21 := stepH (by (repeat' (first | with_reducible exact Below.refl _ _ | with_reducible assumption | with_reducible refine Below.drew ?_ | with_reducible refine below_drewN ?_ _ | with_reducible refine Below.setCell ?_ ?_ _ | with_reducible refine Below.alloc ?_ ?_ _ | omega | (simp; done) | (simp; omega)))) hb21; replace x0 := cellOf hb21 (by first | exact x0 | exact cell_drew x0); replace j0 := cellOf hb21 (by first | exact j0 | exact cell_drew j0); replace j2 := cellOf hb21 (by first | exact j2 | exact cell_drew j2); clear hb21))
            have e1 : vB6 (some v) = true := rfl
            have e2 : vN (some v) = v := rfl
            have e3 : ((wS z.v).toList != (wS z.v).toList) = false := by rw [bne, wS_self]; rfl
            try rw [e1, e2]
            go_wp2_with fail
            go_region_held3 (fun w' => w'.cell? ⟨g, off + k * 3 + 2, none⟩ = some (.string (wS z.v))) (first | with_reducible exact j2 | go_keep)
              (first | (go_at_call 47; refine (word_any v _).mono ?_; rintro e w22 ⟨rfl, rfl⟩; rw [HV2.out]))
            go_wp2_with fail
            go_roundw
            case rel => exact ⟨k + 1, by omega, by go_num, by (repeat' (first | with_reducible exact Below.refl _ _ | with_reducible assumption | with_reducible refine Below.drew ?_ | with_reducible refine below_drewN ?_ _ | with_reducible refine Below.setCell ?_ ?_ _ | with_reducible refine Below.alloc ?_ ?_ _ | omega | (simp; done) | (simp; omega)))⟩
            case measure => simp [intOf]; omega
          · obtain rfl : k = pw.length := by omega
            go_wp2_with fail
            go_ret
            exact ⟨rfl, hw0⟩

theorem lineMaps_walk (l : List (Pc Int)) (A : Option Addr) (c : Nat) (w : World) (hl : RowAt encP 3 w w.heap.size A l) :
    Calls Tryd.prog 8 #[.slice A l.length c] w fun e w' => e = .returned (.bool true) ∧ Below w.heap.size w w' := by
  by_cases h2 : 200 < l.length
  · exact maps_many l A c w h2
  · by_cases hb : ∃ p ∈ l, ¬ ValidP MD p
    · exact maps_bad l A c w hl (by omega) hb
    · exact maps_good l A c w hl (by omega) (fun p hp => Classical.byContradiction fun h => hb ⟨p, hp, h⟩)

end Go.Proofs.YtjcdlhplflmneaaDoor
