/- Once and Each: the walks. -/
import Derived.Test.YtcbglkkmblmbnaaDoorOnceLaw
import Derived.Test.YtcbglkkmblmbnaaDoorOrder2
namespace Go.Proofs.YtcbglkkmblmbnaaDoor
open Go.RowKit

theorem makeR_int {k : Int} (h1 : -1000000000000 ≤ k) (h2 : k ≤ 1000000000000) : makeR k 1 = .ok (k : Rat) := by
  unfold makeR
  rw [if_neg (by decide)]
  have e : Rat.divInt k 1 = (k : Rat) := by
    have := Rat.num_divInt_den (k : Rat)
    rw [Rat.num_intCast, Rat.den_intCast] at this
    exact this
  rw [e]
  unfold goodR
  rw [if_pos (good_int h1 h2)]

set_option maxHeartbeats 1000000 in
theorem whole_int (k : Int) (E : Nat → Addr) (w : World) (h1 : -1000000000000 ≤ k) (h2 : k ≤ 1000000000000) (hE : Env LF E w) :
    Calls Tryd.prog 24 #[.int .i64 k] w fun e w' => e = .returned (.tuple #[.agg #[.int .i64 k, .int .i64 1], .nilIface]) ∧ Below w.heap.size w w' := by
  have HE := Lib.hid hE
  have HM := Lib.hid (makeR_int h1 h2)
  clear hE
  go_enter Tryd.func24, Tryd.ntmps24
  go_wp2_with fail
  refine (make_any k 1 E _ (by omega) (by omega) (by omega) (by omega) (HE.out.below (by (repeat' (first | with_reducible exact Below.refl _ _ | with_reducible assumption | with_reducible refine Below.drew ?_ | with_reducible refine below_drewN ?_ _ | with_reducible refine Below.setCell ?_ ?_ _ | with_reducible refine Below.alloc ?_ ?_ _ | omega | (simp; done) | (simp; omega)))))).mono ?_
  rintro e w1 ⟨⟨n', d', err, rfl, hr⟩, hb1⟩
  have hw1 : Below w.heap.size w w1 := stepH (by (repeat' (first | with_reducible exact Below.refl _ _ | with_reducible assumption | with_reducible refine Below.drew ?_ | with_reducible refine below_drewN ?_ _ | with_reducible refine Below.setCell ?_ ?_ _ | with_reducible refine Below.alloc ?_ ?_ _ | omega | (simp; done) | (simp; omega)))) hb1
  rw [HM.out] at hr
  obtain ⟨e1, e2, rfl⟩ := hr
  rw [Rat.num_intCast] at e1
  rw [Rat.den_intCast] at e2
  have e3 : d' = 1 := e2
  have e4 := e1.symm
  clear e1
  subst e4 e3
  clear e2
  have R := keepH hb1 (g := w.heap.size) (blk_new rfl)
  have z1 := hw1.size
  clear hb1
  have cR := cellH R
  obtain ⟨lR, lR1, lR2⟩ := ltH R
  have fzR := frozH R
  go_wp2_with fail
  refine bodyPost_ret (v := .tuple #[.agg #[.int .i64 k, .int .i64 1], .nilIface]) (by simp [results, Tryd.results24, go_sem, cR]) rfl ⟨rfl, by (repeat' (first | with_reducible exact Below.refl _ _ | with_reducible assumption | with_reducible refine Below.drew ?_ | with_reducible refine below_drewN ?_ _ | with_reducible refine Below.setCell ?_ ?_ _ | with_reducible refine Below.alloc ?_ ?_ _ | omega | (simp; done) | (simp; omega)))⟩

set_option maxHeartbeats 1000000 in
theorem mul_int (k : Int) (u : Rat) (E : Nat → Addr) (w : World) (gk : Good (k : Rat)) (gu : Good u) (hE : Env LF E w) :
    Calls Tryd.prog 25 #[.agg #[.int .i64 k, .int .i64 1], .agg #[.int .i64 u.num, .int .i64 u.den]] w fun e w' =>
      (∃ n d err, e = .returned (.tuple #[.agg #[.int .i64 n, .int .i64 d], err]) ∧ ResF E (goodR ((k : Rat) * u)) n d err) ∧ Below w.heap.size w w' := by
  have B := bds gk
  have C := bds gu
  have h := mul_any (k : Rat).num (k : Rat).den u.num u.den E w B.1 B.2.1 B.2.2.1 B.2.2.2 C.1 C.2.1 C.2.2.1 C.2.2.2 hE
  rw [opI_good _ gk gu, Rat.num_intCast, Rat.den_intCast] at h
  exact h

theorem b5_of {n d n' d' mode un ud : Int} (B : B5 n d mode un ud) (h1 : -9223372036854775808 ≤ n' ∧ n' ≤ 9223372036854775807) (h2 : -9223372036854775808 ≤ d' ∧ d' ≤ 9223372036854775807) : B5 n' d' mode un ud := ⟨h1, h2, B.2.2⟩

set_option maxRecDepth 10000 in
set_option maxHeartbeats 4000000 in
theorem once_any (l : List (Int × Int)) (A : Option Addr) (c : Nat) (mode un ud : Int) (E : Nat → Addr) (w : World) (hc : l.length ≤ c) (hm : c ≤ maxLen) (hl : RowAt encF 2 w w.heap.size A l) (hI : ∀ x ∈ l, In2 x) (B : B5 0 0 mode un ud) (hE : Env LA E w) :
    Calls Tryd.prog 22 #[.slice A l.length c, .agg #[.int .i64 mode, .int .i64 un, .int .i64 ud]] w fun e w' => (∃ n d err, e = .returned (.tuple #[.agg #[.int .i64 n, .int .i64 d], err]) ∧ ResF E (onceR mode un ud l) n d err) ∧ Below w.heap.size w w' := by
  have HE := Lib.hid hE
  have HL := Lib.hid hl
  have HI := Lib.hid hI
  have HB := Lib.hid B
  have HC := Lib.hid hc
  have HM := Lib.hid hm
  clear hE hl hI B hc hm
  go_enter Tryd.func22, Tryd.ntmps22
  go_wp2_with fail
  refine (sum_any l A c E _ HC.out HM.out ((HL.out.below (by (repeat' (first | with_reducible exact Below.refl _ _ | with_reducible assumption | with_reducible refine Below.drew ?_ | with_reducible refine below_drewN ?_ _ | with_reducible refine Below.setCell ?_ ?_ _ | with_reducible refine Below.alloc ?_ ?_ _ | omega | (simp; done) | (simp; omega)))) (Nat.le_refl _)).more (by simp; omega)) HI.out ((HE.out.below (by (repeat' (first | with_reducible exact Below.refl _ _ | with_reducible assumption | with_reducible refine Below.drew ?_ | with_reducible refine below_drewN ?_ _ | with_reducible refine Below.setCell ?_ ?_ _ | with_reducible refine Below.alloc ?_ ?_ _ | omega | (simp; done) | (simp; omega))))).sub (by decide))).mono ?_
  rintro e w1 ⟨⟨n', d', err, rfl, hr⟩, hb1⟩
  have hw1 : Below w.heap.size w w1 := stepH (by (repeat' (first | with_reducible exact Below.refl _ _ | with_reducible assumption | with_reducible refine Below.drew ?_ | with_reducible refine below_drewN ?_ _ | with_reducible refine Below.setCell ?_ ?_ _ | with_reducible refine Below.alloc ?_ ?_ _ | omega | (simp; done) | (simp; omega)))) hb1
  have G := keepH hb1 (g := w.heap.size) (blk_old (blk_new rfl))
  have R := keepH hb1 (g := w.heap.size + 1) (blk_new (by simp))
  have z1 := hw1.size
  clear hb1
  have cG := cellH G
  obtain ⟨lG, lG1, lG2⟩ := ltH G
  have cR := cellH R
  obtain ⟨lR, lR1, lR2⟩ := ltH R
  have fzR := frozH R
  cases hs : sumI l
  · rename_i g
    rw [hs] at hr
    obtain ⟨rfl, rfl, rfl⟩ := hr
    have HS := Lib.hid hs
    clear hs
    have hen := fun w => eql_nil (E g) w
    have cR1 := cellH (Lib.hid (blk_old (o := .cells #[.int .i64 0, .int .i64 0] 30) (setH2 (u := .int .i64 0) (v := .int .i64 0) R).out))
    go_wp2_with fail
    refine bodyPost_ret (v := .tuple #[.agg #[.int .i64 0, .int .i64 0], .iface 106 (.pointer (some (E g)))]) (by simp [results, Tryd.results22, go_sem, cR1]) rfl ⟨⟨_, _, _, rfl, by unfold onceR; rw [HS.out]; exact ⟨rfl, rfl, rfl⟩⟩, by (repeat' (first | with_reducible exact Below.refl _ _ | with_reducible assumption | with_reducible refine Below.drew ?_ | with_reducible refine below_drewN ?_ _ | with_reducible refine Below.setCell ?_ ?_ _ | with_reducible refine Below.alloc ?_ ?_ _ | omega | (simp; done) | (simp; omega)))⟩
  · rename_i s
    rw [hs] at hr
    obtain ⟨rfl, rfl, rfl⟩ := hr
    have HS := Lib.hid hs
    have gs : Good s := by
      have h1 := Lib.hid hs
      unfold sumI at hs
      split at hs
      · exact foldR_good good_zero hs
      · cases hs
    have BS := bds gs
    clear hs gs
    go_wp2_with fail
    refine (round_any s.num s.den mode un ud E _ (b5_of HB.out ⟨BS.1, BS.2.1⟩ ⟨BS.2.2.1, BS.2.2.2⟩) (HE.out.below (by (repeat' (first | with_reducible exact Below.refl _ _ | with_reducible assumption | with_reducible refine Below.drew ?_ | with_reducible refine below_drewN ?_ _ | with_reducible refine Below.setCell ?_ ?_ _ | with_reducible refine Below.alloc ?_ ?_ _ | omega | (simp; done) | (simp; omega)))))).mono ?_
    rintro e w2 ⟨⟨n', d', err, rfl, hr⟩, hb2⟩
    have hw2 : Below w.heap.size w w2 := stepH (by (repeat' (first | with_reducible exact Below.refl _ _ | with_reducible assumption | with_reducible refine Below.drew ?_ | with_reducible refine below_drewN ?_ _ | with_reducible refine Below.setCell ?_ ?_ _ | with_reducible refine Below.alloc ?_ ?_ _ | omega | (simp; done) | (simp; omega)))) hb2
    replace G := keepH hb2 (blk_old G.out)
    replace R := keepH hb2 (blk_old R.out)
    have X := keepH hb2 (g := w1.heap.size) (blk_new rfl)
    have z2 := hw2.size
    clear hb2 hw1 z1
    clear cG lG lG1 lG2 cR lR lR1 lR2 fzR
    have cG := cellH G
    obtain ⟨lG, lG1, lG2⟩ := ltH G
    have cR := cellH R
    obtain ⟨lR, lR1, lR2⟩ := ltH R
    have fzR := frozH R
    have cX := cellH X
    obtain ⟨lX, lX1, lX2⟩ := ltH X
    go_wp2_with fail
    refine bodyPost_ret (v := .tuple #[.agg #[.int .i64 n', .int .i64 d'], err]) (by simp [results, Tryd.results22, go_sem, cR]) rfl ⟨⟨_, _, _, rfl, by unfold onceR; rw [HS.out]; exact hr⟩, by (repeat' (first | with_reducible exact Below.refl _ _ | with_reducible assumption | with_reducible refine Below.drew ?_ | with_reducible refine below_drewN ?_ _ | with_reducible refine Below.setCell ?_ ?_ _ | with_reducible refine Below.alloc ?_ ?_ _ | omega | (simp; done) | (simp; omega)))⟩

set_option maxRecDepth 10000 in
set_option maxHeartbeats 8000000 in
theorem each_any (l : List (Int × Int)) (A : Option Addr) (c : Nat) (mode un ud : Int) (E : Nat → Addr) (w : World) (hc : l.length ≤ c) (hm : c ≤ maxLen) (hl : RowAt encF 2 w w.heap.size A l) (hI : ∀ x ∈ l, In2 x) (B : B5 0 0 mode un ud) (hE : Env LA E w) :
    Calls Tryd.prog 23 #[.slice A l.length c, .agg #[.int .i64 mode, .int .i64 un, .int .i64 ud]] w fun e w' => (∃ n d err, e = .returned (.tuple #[.agg #[.int .i64 n, .int .i64 d], err]) ∧ ResF E (eachR mode un ud 0 l) n d err) ∧ Below w.heap.size w w' := by
  have hm' : l.length ≤ 9223372036854775807 := by unfold maxLen at hm; omega
  have HE := Lib.hid hE
  have HL := Lib.hid hl
  have HI := Lib.hid hI
  have HB := Lib.hid B
  clear hE hl hI B
  go_enter Tryd.func23, Tryd.ntmps23
  go_wp2_with fail
  go_loopw [14] (fun i wr => ∃ (k : Nat) (a : Rat), k ≤ l.length ∧ i = .int .i64 k ∧ Hid (Good a) ∧ Hid (eachR mode un ud 0 l = eachR mode un ud a (l.drop k)) ∧ Below w.heap.size w wr ∧ Hid (wr.heap[w.heap.size]? = some (.cells #[.int .i64 mode, .int .i64 un, .int .i64 ud] 32 (0, 0))) ∧ Hid (wr.heap[w.heap.size + 1]? = some (.cells #[.int .i64 0, .int .i64 0] 30 (0, 0))) ∧ Hid (wr.heap[w.heap.size + 1 + 1]? = some (.cells #[.int .i64 a.num, .int .i64 a.den] 30 (0, 0)))) (fun i _ => l.length - (intOf i).toNat)
  case atStart => exact ⟨0, 0, Nat.zero_le _, rfl, good_zero, rfl, by (repeat' (first | with_reducible exact Below.refl _ _ | with_reducible assumption | with_reducible refine Below.drew ?_ | with_reducible refine below_drewN ?_ _ | with_reducible refine Below.setCell ?_ ?_ _ | with_reducible refine Below.alloc ?_ ?_ _ | omega | (simp; done) | (simp; omega))), blk_old (blk_old (blk_new rfl)), blk_old (blk_new (by simp)), blk_new (by simp)⟩
  case round =>
    obtain ⟨k, a, hk, rfl, hg, hf, hw0, G, R, S⟩ := hrel
    have z0 := hw0.size
    have BA := bds hg.out
    have cG := cellH G
    obtain ⟨lG, lG1, lG2⟩ := ltH G
    have cR := cellH R
    obtain ⟨lR, lR1, lR2⟩ := ltH R
    have fzR := frozH R
    have cS := cellH S
    obtain ⟨lS, lS1, lS2⟩ := ltH S
    have fzS := frozH S
    by_cases hlt : k < l.length
    · obtain ⟨⟨xn, xd⟩, hx⟩ : ∃ x, l[k]? = some x := ⟨l[k], List.getElem?_eq_getElem hlt⟩
      obtain ⟨b, off, rfl, hbB, hcell⟩ := HL.out.below hw0 (Nat.le_refl _) k _ hx
      have c0 : wr.cell? ⟨b, off + k * 2, none⟩ = some (.int .i64 xn) := hcell 0 _ rfl
      have c1 : wr.cell? ⟨b, off + k * 2 + 1, none⟩ = some (.int .i64 xd) := hcell 1 _ rfl
      have HX := Lib.hid hx
      have I := Lib.hid (HI.out _ (List.mem_of_getElem? hx))
      clear hx hcell
      go_wp2_with fail
      refine (round_any xn xd mode un ud E _ (b5_of HB.out ⟨I.out.1, I.out.2.1⟩ ⟨I.out.2.2.1, I.out.2.2.2⟩) (HE.out.below (by (repeat' (first | with_reducible exact Below.refl _ _ | with_reducible assumption | with_reducible refine Below.drew ?_ | with_reducible refine below_drewN ?_ _ | with_reducible refine Below.setCell ?_ ?_ _ | with_reducible refine Below.alloc ?_ ?_ _ | omega | (simp; done) | (simp; omega)))))).mono ?_
      rintro e w1 ⟨⟨n', d', err, rfl, hr⟩, hb1⟩
      have hw1 : Below w.heap.size w w1 := stepH (by (repeat' (first | with_reducible exact Below.refl _ _ | with_reducible assumption | with_reducible refine Below.drew ?_ | with_reducible refine below_drewN ?_ _ | with_reducible refine Below.setCell ?_ ?_ _ | with_reducible refine Below.alloc ?_ ?_ _ | omega | (simp; done) | (simp; omega)))) hb1
      clear c0 c1
      replace G := keepH hb1 (blk_old G.out)
      replace R := keepH hb1 (blk_old R.out)
      replace S := keepH hb1 (blk_old S.out)
      have X := keepH hb1 (g := wr.heap.size) (blk_new rfl)
      have z1 := hw1.size
      clear hb1 hw0 z0
      clear cG lG lG1 lG2 cR lR lR1 lR2 fzR cS lS lS1 lS2 fzS
      have cG := cellH G
      obtain ⟨lG, lG1, lG2⟩ := ltH G
      have cR := cellH R
      obtain ⟨lR, lR1, lR2⟩ := ltH R
      have fzR := frozH R
      have cS := cellH S
      obtain ⟨lS, lS1, lS2⟩ := ltH S
      have fzS := frozH S
      have cX := cellH X
      obtain ⟨lX, lX1, lX2⟩ := ltH X
      cases hs : roundI xn xd mode un ud
      · rename_i g
        rw [hs] at hr
        obtain ⟨rfl, rfl, rfl⟩ := hr
        have HS := Lib.hid hs
        clear hs
        have hen := fun w => eql_nil (E g) w
        have cR1 := cellH (Lib.hid (blk_old (o := .cells #[.int .i64 0, .int .i64 0] 30) (setH2 (u := .int .i64 0) (v := .int .i64 0) R).out))
        go_wp2_with fail
        refine bodyPost_ret (v := .tuple #[.agg #[.int .i64 0, .int .i64 0], .iface 106 (.pointer (some (E g)))]) (by simp [results, Tryd.results23, go_sem, cR1]) rfl ⟨⟨_, _, _, rfl, by rw [hf.out, eachR_err HX.out HS.out]; exact ⟨rfl, rfl, rfl⟩⟩, by (repeat' (first | with_reducible exact Below.refl _ _ | with_reducible assumption | with_reducible refine Below.drew ?_ | with_reducible refine below_drewN ?_ _ | with_reducible refine Below.setCell ?_ ?_ _ | with_reducible refine Below.alloc ?_ ?_ _ | omega | (simp; done) | (simp; omega)))⟩
      · rename_i y
        rw [hs] at hr
        obtain ⟨rfl, rfl, rfl⟩ := hr
        have HS := Lib.hid hs
        have gy : Good y := (round_ok hs).choose_spec.2.2.2.2.1
        have GY := Lib.hid gy
        have BY := bds gy
        clear hs gy
        go_wp2_with fail
        refine (add_any a.num a.den y.num y.den E _ BA.1 BA.2.1 BA.2.2.1 BA.2.2.2 BY.1 BY.2.1 BY.2.2.1 BY.2.2.2 ((HE.out.below (by (repeat' (first | with_reducible exact Below.refl _ _ | with_reducible assumption | with_reducible refine Below.drew ?_ | with_reducible refine below_drewN ?_ _ | with_reducible refine Below.setCell ?_ ?_ _ | with_reducible refine Below.alloc ?_ ?_ _ | omega | (simp; done) | (simp; omega))))).sub (by decide))).mono ?_
        rintro e w2 ⟨⟨n', d', err, rfl, hr⟩, hb2⟩
        have hw2 : Below w.heap.size w w2 := stepH (by (repeat' (first | with_reducible exact Below.refl _ _ | with_reducible assumption | with_reducible refine Below.drew ?_ | with_reducible refine below_drewN ?_ _ | with_reducible refine Below.setCell ?_ ?_ _ | with_reducible refine Below.alloc ?_ ?_ _ | omega | (simp; done) | (simp; omega)))) hb2
        rw [opI_good _ hg.out GY.out] at hr
        replace G := keepH hb2 (blk_old G.out)
        replace R := keepH hb2 (blk_old R.out)
        replace S := keepH hb2 (blk_old S.out)
        replace X := keepH hb2 (blk_old X.out)
        have Y := keepH hb2 (g := w1.heap.size) (blk_new rfl)
        have z2 := hw2.size
        clear hb2 hw1 z1
        clear cG lG lG1 lG2 cR lR lR1 lR2 fzR cS lS lS1 lS2 fzS cX lX lX1 lX2
        have cG := cellH G
        obtain ⟨lG, lG1, lG2⟩ := ltH G
        have cR := cellH R
        obtain ⟨lR, lR1, lR2⟩ := ltH R
        have fzR := frozH R
        have cS := cellH S
        obtain ⟨lS, lS1, lS2⟩ := ltH S
        have fzS := frozH S
        have cX := cellH X
        obtain ⟨lX, lX1, lX2⟩ := ltH X
        have cY := cellH Y
        obtain ⟨lY, lY1, lY2⟩ := ltH Y
        have n1 : w.heap.size ≠ w.heap.size + 1 + 1 := by omega
        have n2 : w.heap.size + 1 ≠ w.heap.size + 1 + 1 := by omega
        rcases resF_two hr with ⟨hg2, rfl, rfl, rfl⟩ | ⟨hg2, rfl, rfl, rfl⟩
        · clear hr
          go_wp2_with fail
          go_roundw
          case rel =>
            refine ⟨k + 1, a + y, by omega, by go_num, hg2, ?_, by (repeat' (first | with_reducible exact Below.refl _ _ | with_reducible assumption | with_reducible refine Below.drew ?_ | with_reducible refine below_drewN ?_ _ | with_reducible refine Below.setCell ?_ ?_ _ | with_reducible refine Below.alloc ?_ ?_ _ | omega | (simp; done) | (simp; omega))), setH2o G n1, setH2o R n2, setH2 S⟩
            show _ = _
            rw [hf.out, eachR_ok HX.out HS.out, if_pos hg2]
          case measure => simp [intOf]; omega
        · clear hr
          have hen := fun w => eql_nil (E 1) w
          have R1 := setH2o (u := .int .i64 0) (v := .int .i64 0) R n2
          have cR1 := cellH R1
          have fR1 := frozH R1
          go_wp2_with fail
          refine bodyPost_ret (v := .tuple #[.agg #[.int .i64 0, .int .i64 0], (.iface 106 (.pointer (some (E 1))))]) (by simp [results, Tryd.results23, go_sem, cR1]) rfl ⟨⟨_, _, _, rfl, ?_⟩, by (repeat' (first | with_reducible exact Below.refl _ _ | with_reducible assumption | with_reducible refine Below.drew ?_ | with_reducible refine below_drewN ?_ _ | with_reducible refine Below.setCell ?_ ?_ _ | with_reducible refine Below.alloc ?_ ?_ _ | omega | (simp; done) | (simp; omega)))⟩
          rw [hf.out, eachR_ok HX.out HS.out, if_neg hg2]
          exact ⟨rfl, rfl, rfl⟩
    · obtain rfl : k = l.length := by omega
      go_wp2_with fail
      refine bodyPost_ret (v := .tuple #[.agg #[.int .i64 a.num, .int .i64 a.den], .nilIface]) (by simp [results, Tryd.results23, go_sem, cR]) rfl ⟨⟨_, _, _, rfl, by rw [hf.out, List.drop_length]; exact ⟨rfl, rfl, rfl⟩⟩, by (repeat' (first | with_reducible exact Below.refl _ _ | with_reducible assumption | with_reducible refine Below.drew ?_ | with_reducible refine below_drewN ?_ _ | with_reducible refine Below.setCell ?_ ?_ _ | with_reducible refine Below.alloc ?_ ?_ _ | omega | (simp; done) | (simp; omega)))⟩

end Go.Proofs.YtcbglkkmblmbnaaDoor
