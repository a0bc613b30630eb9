/- prov.Valid: a walk. -/
import Derived.Test.YtngckppnaflciaaDoorBkP
namespace Go.Proofs.YtngckppnaflciaaDoor
open Go.RowKit

/-- what Valid tells -/
def validE (p : Pv) : Option Nat :=
  if nameB p.id = false then some 3
  else if p.s0 < 0 ∨ p.s1 ≤ p.s0 ∨ 3652059 < p.s1 then some 4
  else if p.ena < 0 ∨ 3652059 ≤ p.ena then some 5
  else if p.rank < 0 ∨ 100 < p.rank then some 6
  else if p.rep.toList.isEmpty = false then repealE p.id p.key p.rank p.rep p.kind p.n p.d p.scale.length p.rule p.mode p.un p.ud
  else if keyB p.key = false then some 3
  else match checkE p.kind p.n p.d p.scale.length (scaleB p.scale) p.rule p.mode p.un p.ud with
    | some g => some g
    | none => if p.kind = kindB p.key then none else some 7

/-- numbers that the code can hold -/
structure PvW (p : Pv) : Prop where
  n : In8 p.n
  d : In8 p.d
  un : In8 p.un
  ud : In8 p.ud
  sc : ∀ b ∈ p.scale, In4 b
  len : p.scale.length ≤ 9223372036854775807
theorem PvIn.w {p : Pv} (h : PvIn p) : PvW p := ⟨h.n, h.d, h.un, h.ud, h.sc, by have := h.len; omega⟩
theorem nameB_size {s : ByteArray} (h : nameB s = true) : s.size ≤ 64 := by
  unfold nameB at h
  simp only [Bool.and_eq_true, decide_eq_true_eq] at h
  exact h.2.1
theorem keyB_size {s : ByteArray} (h : keyB s = true) : s.size ≤ 64 := by
  unfold keyB at h
  simp only [Bool.and_eq_true] at h
  exact nameB_size h.1
theorem key_big (s : ByteArray) (m : Int) (w : World) (hs : 64 < s.size) (hm : w.cell? ⟨12, 0, none⟩ = some (.int .i64 m)) : Calls Tryd.prog 34 #[.string s] w fun e w' => e = .returned (.bool (keyB s)) ∧ Below w.heap.size w w' := by
  have hn : nameB s = false := by
    rw [Bool.eq_false_iff]; intro h; have := nameB_size h; omega
  have HE : Hid (keyB s = false) := by show _ = _; unfold keyB; rw [hn]; rfl
  have HN := Lib.hid (name_any s m w hm)
  rw [hn] at HN
  clear hm hn
  go_enter Tryd.func34, Tryd.ntmps34
  go_wp2_with fail
  refine HN.out.mono ?_
  rintro e w1 ⟨rfl, hb⟩
  go_wp2_with fail
  go_ret
  exact ⟨by rw [HE.out]; rfl, hb⟩
theorem key_all (s : ByteArray) (m : Int) (w : World) (hm : w.cell? ⟨12, 0, none⟩ = some (.int .i64 m)) : Calls Tryd.prog 34 #[.string s] w fun e w' => e = .returned (.bool (keyB s)) ∧ Below w.heap.size w w' := by
  by_cases h : 64 < s.size
  · exact key_big s m w h hm
  · exact key_any s m w (by omega) hm
theorem key_is (s : ByteArray) (b : Bool) (m : Int) (w : World) (hm : w.cell? ⟨12, 0, none⟩ = some (.int .i64 m)) (h : keyB s = b) : Calls Tryd.prog 34 #[.string s] w fun e w' => e = .returned (.bool b) ∧ Below w.heap.size w w' := by
  subst h; exact key_all s m w hm
theorem kind_is (s : ByteArray) (k : Int) (m : Int) (w : World) (hs : s.size < 4294967281) (hm : w.cell? ⟨12, 0, none⟩ = some (.int .i64 m)) (h : kindB s = k) : Calls Tryd.prog 36 #[.string s] w fun e w' => e = .returned (.int .i64 k) ∧ Below w.heap.size w w' := by
  subst h; exact kind_any s m w hs hm

set_option maxRecDepth 100000 in
set_option maxHeartbeats 8000000 in
theorem pvalid_is (p : Pv) (A : Option Addr) (c : Nat) (x : Option Nat) (E : Nat → Addr) (m : Int) (w : World) (hE : Env LB E w)
    (hm : w.cell? ⟨12, 0, none⟩ = some (.int .i64 m)) (hI : PvW p) (hA : PvAt w w.heap.size p A c) (hx : validE p = x) :
    Calls Tryd.prog 18 #[pvV p A c] w fun e w' => e = .returned (errB E x) ∧ Below w.heap.size w w' := by
  obtain ⟨id, key, s0, s1, ena, rank, rep, k, n, d, sc, r, mode, un, ud⟩ := p
  obtain ⟨in1, in2, in3, in4, insc, inlen⟩ := hI
  dsimp only at in1 in2 in3 in4 insc inlen
  have HS := Lib.hid (fun (W : World) (h : Below w.heap.size w W) => isScale_any sc A c W ((hA.below h (Nat.le_refl _)).more h.size).row inlen insc)
  have HM := Lib.hid hm
  have HE := Lib.hid hE
  unfold pvV
  dsimp only
  unfold validE at hx
  dsimp only at hx
  clear hm hE hA insc
  cases hn : nameB id with
  | false =>
    have e1 : x = some 3 := by rw [← hx]; simp [hn]
    subst e1
    clear hx
    have HN := Lib.hid hn
    clear hn
    go_enter Tryd.func18, Tryd.ntmps18
    go_wp2_with fail
    refine (name_is id false m _ (cell_at HM.out (by (repeat' (first | with_reducible exact Below.refl _ _ | with_reducible assumption | with_reducible refine Below.drew ?_ | with_reducible refine below_drewN ?_ _ | with_reducible refine Below.setCell ?_ ?_ _ | with_reducible refine Below.alloc ?_ ?_ _ | omega | (simp; done) | (simp; omega))))) HN.out).mono ?_
    rintro e w1 ⟨rfl, hb1⟩
    have hw1 : Below w.heap.size w w1 := stepH (by (repeat' (first | with_reducible exact Below.refl _ _ | with_reducible assumption | with_reducible refine Below.drew ?_ | with_reducible refine below_drewN ?_ _ | with_reducible refine Below.setCell ?_ ?_ _ | with_reducible refine Below.alloc ?_ ?_ _ | omega | (simp; done) | (simp; omega)))) hb1
    have B1 := keepH hb1 (g := w.heap.size) (blk_new rfl)
    have cB := cellH B1
    have c10 := (HE.out.below hw1).cell 3 (by decide)
    have c11 := (HE.out.below hw1).cell 4 (by decide)
    have c12 := (HE.out.below hw1).cell 5 (by decide)
    have c13 := (HE.out.below hw1).cell 6 (by decide)
    go_wp2_with fail
    go_ret
    exact ⟨rfl, hw1⟩
  | true =>
    by_cases h1 : s0 < 0
    · have e1 : x = some 4 := by rw [← hx]; simp [hn, h1]
      subst e1
      clear hx
      have HN := Lib.hid hn
      clear hn
      go_enter Tryd.func18, Tryd.ntmps18
      go_wp2_with fail
      refine (name_is id true m _ (cell_at HM.out (by (repeat' (first | with_reducible exact Below.refl _ _ | with_reducible assumption | with_reducible refine Below.drew ?_ | with_reducible refine below_drewN ?_ _ | with_reducible refine Below.setCell ?_ ?_ _ | with_reducible refine Below.alloc ?_ ?_ _ | omega | (simp; done) | (simp; omega))))) HN.out).mono ?_
      rintro e w1 ⟨rfl, hb1⟩
      have hw1 : Below w.heap.size w w1 := stepH (by (repeat' (first | with_reducible exact Below.refl _ _ | with_reducible assumption | with_reducible refine Below.drew ?_ | with_reducible refine below_drewN ?_ _ | with_reducible refine Below.setCell ?_ ?_ _ | with_reducible refine Below.alloc ?_ ?_ _ | omega | (simp; done) | (simp; omega)))) hb1
      have B1 := keepH hb1 (g := w.heap.size) (blk_new rfl)
      have cB := cellH B1
      have c10 := (HE.out.below hw1).cell 3 (by decide)
      have c11 := (HE.out.below hw1).cell 4 (by decide)
      have c12 := (HE.out.below hw1).cell 5 (by decide)
      have c13 := (HE.out.below hw1).cell 6 (by decide)
      go_wp2_with fail
      go_ret
      exact ⟨rfl, hw1⟩
    · by_cases h2 : s1 ≤ s0
      · have e1 : x = some 4 := by rw [← hx]; simp [hn, h1, h2]
        subst e1
        clear hx
        have HN := Lib.hid hn
        clear hn
        go_enter Tryd.func18, Tryd.ntmps18
        go_wp2_with fail
        refine (name_is id true m _ (cell_at HM.out (by (repeat' (first | with_reducible exact Below.refl _ _ | with_reducible assumption | with_reducible refine Below.drew ?_ | with_reducible refine below_drewN ?_ _ | with_reducible refine Below.setCell ?_ ?_ _ | with_reducible refine Below.alloc ?_ ?_ _ | omega | (simp; done) | (simp; omega))))) HN.out).mono ?_
        rintro e w1 ⟨rfl, hb1⟩
        have hw1 : Below w.heap.size w w1 := stepH (by (repeat' (first | with_reducible exact Below.refl _ _ | with_reducible assumption | with_reducible refine Below.drew ?_ | with_reducible refine below_drewN ?_ _ | with_reducible refine Below.setCell ?_ ?_ _ | with_reducible refine Below.alloc ?_ ?_ _ | omega | (simp; done) | (simp; omega)))) hb1
        have B1 := keepH hb1 (g := w.heap.size) (blk_new rfl)
        have cB := cellH B1
        have c10 := (HE.out.below hw1).cell 3 (by decide)
        have c11 := (HE.out.below hw1).cell 4 (by decide)
        have c12 := (HE.out.below hw1).cell 5 (by decide)
        have c13 := (HE.out.below hw1).cell 6 (by decide)
        go_wp2_with fail
        go_ret
        exact ⟨rfl, hw1⟩
      · by_cases h3 : 3652059 < s1
        · have e1 : x = some 4 := by rw [← hx]; simp [hn, h1, h2, h3]
          subst e1
          clear hx
          have HN := Lib.hid hn
          clear hn
          go_enter Tryd.func18, Tryd.ntmps18
          go_wp2_with fail
          refine (name_is id true m _ (cell_at HM.out (by (repeat' (first | with_reducible exact Below.refl _ _ | with_reducible assumption | with_reducible refine Below.drew ?_ | with_reducible refine below_drewN ?_ _ | with_reducible refine Below.setCell ?_ ?_ _ | with_reducible refine Below.alloc ?_ ?_ _ | omega | (simp; done) | (simp; omega))))) HN.out).mono ?_
          rintro e w1 ⟨rfl, hb1⟩
          have hw1 : Below w.heap.size w w1 := stepH (by (repeat' (first | with_reducible exact Below.refl _ _ | with_reducible assumption | with_reducible refine Below.drew ?_ | with_reducible refine below_drewN ?_ _ | with_reducible refine Below.setCell ?_ ?_ _ | with_reducible refine Below.alloc ?_ ?_ _ | omega | (simp; done) | (simp; omega)))) hb1
          have B1 := keepH hb1 (g := w.heap.size) (blk_new rfl)
          have cB := cellH B1
          have c10 := (HE.out.below hw1).cell 3 (by decide)
          have c11 := (HE.out.below hw1).cell 4 (by decide)
          have c12 := (HE.out.below hw1).cell 5 (by decide)
          have c13 := (HE.out.below hw1).cell 6 (by decide)
          go_wp2_with fail
          go_ret
          exact ⟨rfl, hw1⟩
        · by_cases h4 : ena < 0
          · have e1 : x = some 5 := by rw [← hx]; simp [hn, h1, h2, h3, h4]
            subst e1
            clear hx
            have HN := Lib.hid hn
            clear hn
            go_enter Tryd.func18, Tryd.ntmps18
            go_wp2_with fail
            refine (name_is id true m _ (cell_at HM.out (by (repeat' (first | with_reducible exact Below.refl _ _ | with_reducible assumption | with_reducible refine Below.drew ?_ | with_reducible refine below_drewN ?_ _ | with_reducible refine Below.setCell ?_ ?_ _ | with_reducible refine Below.alloc ?_ ?_ _ | omega | (simp; done) | (simp; omega))))) HN.out).mono ?_
            rintro e w1 ⟨rfl, hb1⟩
            have hw1 : Below w.heap.size w w1 := stepH (by (repeat' (first | with_reducible exact Below.refl _ _ | with_reducible assumption | with_reducible refine Below.drew ?_ | with_reducible refine below_drewN ?_ _ | with_reducible refine Below.setCell ?_ ?_ _ | with_reducible refine Below.alloc ?_ ?_ _ | omega | (simp; done) | (simp; omega)))) hb1
            have B1 := keepH hb1 (g := w.heap.size) (blk_new rfl)
            have cB := cellH B1
            have c10 := (HE.out.below hw1).cell 3 (by decide)
            have c11 := (HE.out.below hw1).cell 4 (by decide)
            have c12 := (HE.out.below hw1).cell 5 (by decide)
            have c13 := (HE.out.below hw1).cell 6 (by decide)
            go_wp2_with fail
            go_ret
            exact ⟨rfl, hw1⟩
          · by_cases h5 : 3652059 ≤ ena
            · have e1 : x = some 5 := by rw [← hx]; simp [hn, h1, h2, h3, h4, h5]
              subst e1
              clear hx
              have HN := Lib.hid hn
              clear hn
              go_enter Tryd.func18, Tryd.ntmps18
              go_wp2_with fail
              refine (name_is id true m _ (cell_at HM.out (by (repeat' (first | with_reducible exact Below.refl _ _ | with_reducible assumption | with_reducible refine Below.drew ?_ | with_reducible refine below_drewN ?_ _ | with_reducible refine Below.setCell ?_ ?_ _ | with_reducible refine Below.alloc ?_ ?_ _ | omega | (simp; done) | (simp; omega))))) HN.out).mono ?_
              rintro e w1 ⟨rfl, hb1⟩
              have hw1 : Below w.heap.size w w1 := stepH (by (repeat' (first | with_reducible exact Below.refl _ _ | with_reducible assumption | with_reducible refine Below.drew ?_ | with_reducible refine below_drewN ?_ _ | with_reducible refine Below.setCell ?_ ?_ _ | with_reducible refine Below.alloc ?_ ?_ _ | omega | (simp; done) | (simp; omega)))) hb1
              have B1 := keepH hb1 (g := w.heap.size) (blk_new rfl)
              have cB := cellH B1
              have c10 := (HE.out.below hw1).cell 3 (by decide)
              have c11 := (HE.out.below hw1).cell 4 (by decide)
              have c12 := (HE.out.below hw1).cell 5 (by decide)
              have c13 := (HE.out.below hw1).cell 6 (by decide)
              go_wp2_with fail
              go_ret
              exact ⟨rfl, hw1⟩
            · by_cases h6 : rank < 0
              · have e1 : x = some 6 := by rw [← hx]; simp [hn, h1, h2, h3, h4, h5, h6]
                subst e1
                clear hx
                have HN := Lib.hid hn
                clear hn
                go_enter Tryd.func18, Tryd.ntmps18
                go_wp2_with fail
                refine (name_is id true m _ (cell_at HM.out (by (repeat' (first | with_reducible exact Below.refl _ _ | with_reducible assumption | with_reducible refine Below.drew ?_ | with_reducible refine below_drewN ?_ _ | with_reducible refine Below.setCell ?_ ?_ _ | with_reducible refine Below.alloc ?_ ?_ _ | omega | (simp; done) | (simp; omega))))) HN.out).mono ?_
                rintro e w1 ⟨rfl, hb1⟩
                have hw1 : Below w.heap.size w w1 := stepH (by (repeat' (first | with_reducible exact Below.refl _ _ | with_reducible assumption | with_reducible refine Below.drew ?_ | with_reducible refine below_drewN ?_ _ | with_reducible refine Below.setCell ?_ ?_ _ | with_reducible refine Below.alloc ?_ ?_ _ | omega | (simp; done) | (simp; omega)))) hb1
                have B1 := keepH hb1 (g := w.heap.size) (blk_new rfl)
                have cB := cellH B1
                have c10 := (HE.out.below hw1).cell 3 (by decide)
                have c11 := (HE.out.below hw1).cell 4 (by decide)
                have c12 := (HE.out.below hw1).cell 5 (by decide)
                have c13 := (HE.out.below hw1).cell 6 (by decide)
                go_wp2_with fail
                go_ret
                exact ⟨rfl, hw1⟩
              · by_cases h7 : 100 < rank
                · have e1 : x = some 6 := by rw [← hx]; simp [hn, h1, h2, h3, h4, h5, h6, h7]
                  subst e1
                  clear hx
                  have HN := Lib.hid hn
                  clear hn
                  go_enter Tryd.func18, Tryd.ntmps18
                  go_wp2_with fail
                  refine (name_is id true m _ (cell_at HM.out (by (repeat' (first | with_reducible exact Below.refl _ _ | with_reducible assumption | with_reducible refine Below.drew ?_ | with_reducible refine below_drewN ?_ _ | with_reducible refine Below.setCell ?_ ?_ _ | with_reducible refine Below.alloc ?_ ?_ _ | omega | (simp; done) | (simp; omega))))) HN.out).mono ?_
                  rintro e w1 ⟨rfl, hb1⟩
                  have hw1 : Below w.heap.size w w1 := stepH (by (repeat' (first | with_reducible exact Below.refl _ _ | with_reducible assumption | with_reducible refine Below.drew ?_ | with_reducible refine below_drewN ?_ _ | with_reducible refine Below.setCell ?_ ?_ _ | with_reducible refine Below.alloc ?_ ?_ _ | omega | (simp; done) | (simp; omega)))) hb1
                  have B1 := keepH hb1 (g := w.heap.size) (blk_new rfl)
                  have cB := cellH B1
                  have c10 := (HE.out.below hw1).cell 3 (by decide)
                  have c11 := (HE.out.below hw1).cell 4 (by decide)
                  have c12 := (HE.out.below hw1).cell 5 (by decide)
                  have c13 := (HE.out.below hw1).cell 6 (by decide)
                  go_wp2_with fail
                  go_ret
                  exact ⟨rfl, hw1⟩
                · cases hr : rep.toList.isEmpty with
                  | false =>
                    have e1 : repealE id key rank rep k n d sc.length r mode un ud = x := by rw [← hx]; simp [hn, h1, h2, h3, h4, h5, h6, h7, hr]
                    clear hx
                    have HX := Lib.hid e1
                    clear e1
                    have HN := Lib.hid hn
                    clear hn
                    go_enter Tryd.func18, Tryd.ntmps18
                    go_wp2_with fail
                    refine (name_is id true m _ (cell_at HM.out (by (repeat' (first | with_reducible exact Below.refl _ _ | with_reducible assumption | with_reducible refine Below.drew ?_ | with_reducible refine below_drewN ?_ _ | with_reducible refine Below.setCell ?_ ?_ _ | with_reducible refine Below.alloc ?_ ?_ _ | omega | (simp; done) | (simp; omega))))) HN.out).mono ?_
                    rintro e w1 ⟨rfl, hb1⟩
                    have hw1 : Below w.heap.size w w1 := stepH (by (repeat' (first | with_reducible exact Below.refl _ _ | with_reducible assumption | with_reducible refine Below.drew ?_ | with_reducible refine below_drewN ?_ _ | with_reducible refine Below.setCell ?_ ?_ _ | with_reducible refine Below.alloc ?_ ?_ _ | omega | (simp; done) | (simp; omega)))) hb1
                    have B1 := keepH hb1 (g := w.heap.size) (blk_new rfl)
                    have cB := cellH B1
                    have c10 := (HE.out.below hw1).cell 3 (by decide)
                    have c11 := (HE.out.below hw1).cell 4 (by decide)
                    have c12 := (HE.out.below hw1).cell 5 (by decide)
                    have c13 := (HE.out.below hw1).cell 6 (by decide)
                    go_wp2_with fail
                    refine (repeal_is id key s0 s1 ena rank rep k n d A sc.length c r mode un ud x E m _ (HE.out.below hw1) (cell_at HM.out hw1) HX.out).mono ?_
                    rintro e w2 ⟨rfl, hb2⟩
                    have hw2 : Below w.heap.size w w2 := stepH hw1 hb2
                    have B1 := keepH hb2 (g := w.heap.size) B1.out
                    have cB := cellH B1
                    go_wp2_with fail
                    go_ret
                    exact ⟨rfl, hw2⟩
                  | true =>
                    cases hk : keyB key with
                    | false =>
                      have e1 : x = some 3 := by rw [← hx]; simp [hn, h1, h2, h3, h4, h5, h6, h7, hr, hk]
                      subst e1
                      clear hx
                      have HN := Lib.hid hn
                      clear hn
                      have HK := Lib.hid hk
                      clear hk
                      go_enter Tryd.func18, Tryd.ntmps18
                      go_wp2_with fail
                      refine (name_is id true m _ (cell_at HM.out (by (repeat' (first | with_reducible exact Below.refl _ _ | with_reducible assumption | with_reducible refine Below.drew ?_ | with_reducible refine below_drewN ?_ _ | with_reducible refine Below.setCell ?_ ?_ _ | with_reducible refine Below.alloc ?_ ?_ _ | omega | (simp; done) | (simp; omega))))) HN.out).mono ?_
                      rintro e w1 ⟨rfl, hb1⟩
                      have hw1 : Below w.heap.size w w1 := stepH (by (repeat' (first | with_reducible exact Below.refl _ _ | with_reducible assumption | with_reducible refine Below.drew ?_ | with_reducible refine below_drewN ?_ _ | with_reducible refine Below.setCell ?_ ?_ _ | with_reducible refine Below.alloc ?_ ?_ _ | omega | (simp; done) | (simp; omega)))) hb1
                      have B1 := keepH hb1 (g := w.heap.size) (blk_new rfl)
                      have cB := cellH B1
                      have c10 := (HE.out.below hw1).cell 3 (by decide)
                      have c11 := (HE.out.below hw1).cell 4 (by decide)
                      have c12 := (HE.out.below hw1).cell 5 (by decide)
                      have c13 := (HE.out.below hw1).cell 6 (by decide)
                      go_wp2_with fail
                      refine (key_is key false m _ (cell_at HM.out hw1) HK.out).mono ?_
                      rintro e w2 ⟨rfl, hb2⟩
                      have hw2 : Below w.heap.size w w2 := stepH hw1 hb2
                      have B1 := keepH hb2 (g := w.heap.size) B1.out
                      have cB := cellH B1
                      have c20 := (HE.out.below hw2).cell 3 (by decide)
                      go_wp2_with fail
                      go_ret
                      exact ⟨rfl, hw2⟩
                    | true =>
                      have inkey : key.size < 4294967281 := by have := keyB_size hk; omega
                      cases hc : checkE k n d sc.length (scaleB sc) r mode un ud with
                      | some g =>
                        have e1 : x = some g := by rw [← hx]; simp [hn, h1, h2, h3, h4, h5, h6, h7, hr, hk]; rw [hc]
                        subst e1
                        clear hx
                        have HN := Lib.hid hn
                        clear hn
                        have HK := Lib.hid hk
                        clear hk
                        have HC := Lib.hid hc
                        clear hc
                        go_enter Tryd.func18, Tryd.ntmps18
                        go_wp2_with fail
                        refine (name_is id true m _ (cell_at HM.out (by (repeat' (first | with_reducible exact Below.refl _ _ | with_reducible assumption | with_reducible refine Below.drew ?_ | with_reducible refine below_drewN ?_ _ | with_reducible refine Below.setCell ?_ ?_ _ | with_reducible refine Below.alloc ?_ ?_ _ | omega | (simp; done) | (simp; omega))))) HN.out).mono ?_
                        rintro e w1 ⟨rfl, hb1⟩
                        have hw1 : Below w.heap.size w w1 := stepH (by (repeat' (first | with_reducible exact Below.refl _ _ | with_reducible assumption | with_reducible refine Below.drew ?_ | with_reducible refine below_drewN ?_ _ | with_reducible refine Below.setCell ?_ ?_ _ | with_reducible refine Below.alloc ?_ ?_ _ | omega | (simp; done) | (simp; omega)))) hb1
                        have B1 := keepH hb1 (g := w.heap.size) (blk_new rfl)
                        have cB := cellH B1
                        have c10 := (HE.out.below hw1).cell 3 (by decide)
                        have c11 := (HE.out.below hw1).cell 4 (by decide)
                        have c12 := (HE.out.below hw1).cell 5 (by decide)
                        have c13 := (HE.out.below hw1).cell 6 (by decide)
                        go_wp2_with fail
                        refine (key_is key true m _ (cell_at HM.out hw1) HK.out).mono ?_
                        rintro e w2 ⟨rfl, hb2⟩
                        have hw2 : Below w.heap.size w w2 := stepH hw1 hb2
                        have B1 := keepH hb2 (g := w.heap.size) B1.out
                        have cB := cellH B1
                        have c20 := (HE.out.below hw2).cell 3 (by decide)
                        go_wp2_with fail
                        refine (check_is k n d A sc.length c (scaleB sc) r mode un ud (some g) E _ (HE.out.below hw2) in1 in2 in3 in4 (fun W h => HS.out W (stepH hw2 h)) HC.out).mono ?_
                        rintro e w3 ⟨rfl, hb3⟩
                        have hw3 : Below w.heap.size w w3 := stepH hw2 hb3
                        have B1 := keepH hb3 (g := w.heap.size) B1.out
                        have cB := cellH B1
                        have hne := fun W => eql_nil (E g) W
                        rw [show errB E (some g) = .iface 133 (.pointer (some (E g))) from rfl]
                        go_wp2_with fail
                        go_ret
                        exact ⟨rfl, hw3⟩
                      | none =>
                        by_cases hq : k = kindB key
                        · have e1 : x = none := by rw [← hx]; simp [hn, h1, h2, h3, h4, h5, h6, h7, hr, hk]; rw [hc]; simp [hq]
                          subst e1
                          clear hx
                          obtain ⟨k2, hk2⟩ : ∃ k2, kindB key = k2 := ⟨_, rfl⟩
                          rw [hk2] at hq
                          subst hq
                          have hd : (k != k) = false := by simp
                          have HN := Lib.hid hn
                          clear hn
                          have HK := Lib.hid hk
                          clear hk
                          have HC := Lib.hid hc
                          clear hc
                          have HQ := Lib.hid hk2
                          clear hk2
                          go_enter Tryd.func18, Tryd.ntmps18
                          go_wp2_with fail
                          refine (name_is id true m _ (cell_at HM.out (by (repeat' (first | with_reducible exact Below.refl _ _ | with_reducible assumption | with_reducible refine Below.drew ?_ | with_reducible refine below_drewN ?_ _ | with_reducible refine Below.setCell ?_ ?_ _ | with_reducible refine Below.alloc ?_ ?_ _ | omega | (simp; done) | (simp; omega))))) HN.out).mono ?_
                          rintro e w1 ⟨rfl, hb1⟩
                          have hw1 : Below w.heap.size w w1 := stepH (by (repeat' (first | with_reducible exact Below.refl _ _ | with_reducible assumption | with_reducible refine Below.drew ?_ | with_reducible refine below_drewN ?_ _ | with_reducible refine Below.setCell ?_ ?_ _ | with_reducible refine Below.alloc ?_ ?_ _ | omega | (simp; done) | (simp; omega)))) hb1
                          have B1 := keepH hb1 (g := w.heap.size) (blk_new rfl)
                          have cB := cellH B1
                          have c10 := (HE.out.below hw1).cell 3 (by decide)
                          have c11 := (HE.out.below hw1).cell 4 (by decide)
                          have c12 := (HE.out.below hw1).cell 5 (by decide)
                          have c13 := (HE.out.below hw1).cell 6 (by decide)
                          go_wp2_with fail
                          refine (key_is key true m _ (cell_at HM.out hw1) HK.out).mono ?_
                          rintro e w2 ⟨rfl, hb2⟩
                          have hw2 : Below w.heap.size w w2 := stepH hw1 hb2
                          have B1 := keepH hb2 (g := w.heap.size) B1.out
                          have cB := cellH B1
                          have c20 := (HE.out.below hw2).cell 3 (by decide)
                          go_wp2_with fail
                          refine (check_is k n d A sc.length c (scaleB sc) r mode un ud none E _ (HE.out.below hw2) in1 in2 in3 in4 (fun W h => HS.out W (stepH hw2 h)) HC.out).mono ?_
                          rintro e w3 ⟨rfl, hb3⟩
                          have hw3 : Below w.heap.size w w3 := stepH hw2 hb3
                          have B1 := keepH hb3 (g := w.heap.size) B1.out
                          have cB := cellH B1
                          rw [show errB E none = .nilIface from rfl]
                          go_wp2_with fail
                          have t7 : w3.cell? ⟨w.heap.size, 7, none⟩ = some (.int .i64 k) := cellH B1 7
                          have t1 : w3.cell? ⟨w.heap.size, 1, none⟩ = some (.string key) := cellH B1 1
                          clear cB
                          go_region_held3 (fun w' => w'.cell? ⟨w.heap.size, 7, none⟩ = some (.int .i64 k) ∧ w'.cell? ⟨w.heap.size, 1, none⟩ = some (.string key)) (first | with_reducible exact ⟨t7, t1⟩ | go_keep)
                            (first | (go_at_call 36; refine (kind_is key k m _ inkey (cell_at HM.out (by (repeat' (first | with_reducible exact Below.refl _ _ | with_reducible assumption | with_reducible refine Below.drew ?_ | with_reducible refine below_drewN ?_ _ | with_reducible refine Below.setCell ?_ ?_ _ | with_reducible refine Below.alloc ?_ ?_ _ | omega | (simp; done) | (simp; omega))))) HQ.out).mono ?_; rintro e w4 ⟨rfl, hb4⟩; have hw4 : Below w.heap.size w w4 := stepH (by (repeat' (first | with_reducible exact Below.refl _ _ | with_reducible assumption | with_reducible refine Below.drew ?_ | with_reducible refine below_drewN ?_ _ | with_reducible refine Below.setCell ?_ ?_ _ | with_reducible refine Below.alloc ?_ ?_ _ | omega | (simp; done) | (simp; omega)))) hb4; have t7 := cellOf hb4 (by first | exact t7 | exact cell_drew t7); have t1 := cellOf hb4 (by first | exact t1 | exact cell_drew t1)))
                          have cK := (HE.out.below hw4).cell 7 (by decide)
                          go_wp2_with fail
                          go_ret
                          exact ⟨rfl, hw4⟩
                        · have e1 : x = some 7 := by rw [← hx]; simp [hn, h1, h2, h3, h4, h5, h6, h7, hr, hk]; rw [hc]; simp [hq]
                          subst e1
                          clear hx
                          obtain ⟨k2, hk2⟩ : ∃ k2, kindB key = k2 := ⟨_, rfl⟩
                          rw [hk2] at hq
                          have hd : (k != k2) = true := by simpa using hq
                          have HN := Lib.hid hn
                          clear hn
                          have HK := Lib.hid hk
                          clear hk
                          have HC := Lib.hid hc
                          clear hc
                          have HQ := Lib.hid hk2
                          clear hk2 hq
                          go_enter Tryd.func18, Tryd.ntmps18
                          go_wp2_with fail
                          refine (name_is id true m _ (cell_at HM.out (by (repeat' (first | with_reducible exact Below.refl _ _ | with_reducible assumption | with_reducible refine Below.drew ?_ | with_reducible refine below_drewN ?_ _ | with_reducible refine Below.setCell ?_ ?_ _ | with_reducible refine Below.alloc ?_ ?_ _ | omega | (simp; done) | (simp; omega))))) HN.out).mono ?_
                          rintro e w1 ⟨rfl, hb1⟩
                          have hw1 : Below w.heap.size w w1 := stepH (by (repeat' (first | with_reducible exact Below.refl _ _ | with_reducible assumption | with_reducible refine Below.drew ?_ | with_reducible refine below_drewN ?_ _ | with_reducible refine Below.setCell ?_ ?_ _ | with_reducible refine Below.alloc ?_ ?_ _ | omega | (simp; done) | (simp; omega)))) hb1
                          have B1 := keepH hb1 (g := w.heap.size) (blk_new rfl)
                          have cB := cellH B1
                          have c10 := (HE.out.below hw1).cell 3 (by decide)
                          have c11 := (HE.out.below hw1).cell 4 (by decide)
                          have c12 := (HE.out.below hw1).cell 5 (by decide)
                          have c13 := (HE.out.below hw1).cell 6 (by decide)
                          go_wp2_with fail
                          refine (key_is key true m _ (cell_at HM.out hw1) HK.out).mono ?_
                          rintro e w2 ⟨rfl, hb2⟩
                          have hw2 : Below w.heap.size w w2 := stepH hw1 hb2
                          have B1 := keepH hb2 (g := w.heap.size) B1.out
                          have cB := cellH B1
                          have c20 := (HE.out.below hw2).cell 3 (by decide)
                          go_wp2_with fail
                          refine (check_is k n d A sc.length c (scaleB sc) r mode un ud none E _ (HE.out.below hw2) in1 in2 in3 in4 (fun W h => HS.out W (stepH hw2 h)) HC.out).mono ?_
                          rintro e w3 ⟨rfl, hb3⟩
                          have hw3 : Below w.heap.size w w3 := stepH hw2 hb3
                          have B1 := keepH hb3 (g := w.heap.size) B1.out
                          have cB := cellH B1
                          rw [show errB E none = .nilIface from rfl]
                          go_wp2_with fail
                          have t7 : w3.cell? ⟨w.heap.size, 7, none⟩ = some (.int .i64 k) := cellH B1 7
                          have t1 : w3.cell? ⟨w.heap.size, 1, none⟩ = some (.string key) := cellH B1 1
                          clear cB
                          go_region_held3 (fun w' => w'.cell? ⟨w.heap.size, 7, none⟩ = some (.int .i64 k) ∧ w'.cell? ⟨w.heap.size, 1, none⟩ = some (.string key)) (first | with_reducible exact ⟨t7, t1⟩ | go_keep)
                            (first | (go_at_call 36; refine (kind_is key k2 m _ inkey (cell_at HM.out (by (repeat' (first | with_reducible exact Below.refl _ _ | with_reducible assumption | with_reducible refine Below.drew ?_ | with_reducible refine below_drewN ?_ _ | with_reducible refine Below.setCell ?_ ?_ _ | with_reducible refine Below.alloc ?_ ?_ _ | omega | (simp; done) | (simp; omega))))) HQ.out).mono ?_; rintro e w4 ⟨rfl, hb4⟩; have hw4 : Below w.heap.size w w4 := stepH (by (repeat' (first | with_reducible exact Below.refl _ _ | with_reducible assumption | with_reducible refine Below.drew ?_ | with_reducible refine below_drewN ?_ _ | with_reducible refine Below.setCell ?_ ?_ _ | with_reducible refine Below.alloc ?_ ?_ _ | omega | (simp; done) | (simp; omega)))) hb4; have t7 := cellOf hb4 (by first | exact t7 | exact cell_drew t7); have t1 := cellOf hb4 (by first | exact t1 | exact cell_drew t1)))
                          have cK := (HE.out.below hw4).cell 7 (by decide)
                          go_wp2_with fail
                          go_ret
                          exact ⟨rfl, hw4⟩

/-- what is valid is small -/
theorem valid_in {p : Pv} (h : PvW p) (hv : validE p = none) : PvIn p ∧ p.id.size ≤ 64 := by
  unfold validE at hv
  split at hv
  · cases hv
  rename_i hn
  have hid := nameB_size (s := p.id) (by simpa using hn)
  split at hv
  · cases hv
  split at hv
  · cases hv
  split at hv
  · cases hv
  have hun : ∀ k, unusedB k p.n p.d p.scale.length p.rule p.mode p.un p.ud = true → k ≠ 2 → p.scale.length = 0 := by
    intro k hu hk
    unfold unusedB at hu
    split at hu
    · cases hu
    · rename_i h2
      simp [hk] at h2
      rw [h2.2]; rfl
  split at hv
  · unfold repealE at hv
    split at hv
    · cases hv
    · split at hv
      · cases hv
      · rename_i h3
        have h4 : p.key.toList.isEmpty = true ∧ p.kind = 0 ∧ unusedB p.kind p.n p.d p.scale.length p.rule p.mode p.un p.ud = true := by
          simp only [Bool.not_eq_true, Bool.or_eq_false_iff] at h3
          obtain ⟨_, h31, _, h33, h34⟩ := h3
          exact ⟨by simpa using h31, by simpa using h33, by simpa using h34⟩
        have hl := hun _ h4.2.2 (by rw [h4.2.1]; decide)
        have hk : p.key.size = 0 := by
          have := h4.1
          rw [ByteArray.toList_eq] at this
          have := List.isEmpty_iff.1 this
          have := congrArg List.length this
          simpa using this
        exact ⟨⟨h.n, h.d, h.un, h.ud, h.sc, by omega, by omega⟩, hid⟩
  · split at hv
    · cases hv
    · rename_i hk
      have hks := keyB_size (s := p.key) (by simpa using hk)
      split at hv
      · cases hv
      · rename_i hc
        have hl : p.scale.length ≤ 32 := by
          unfold checkE at hc
          split at hc
          · cases hc
          · rename_i h5
            split at hc
            · rename_i h6
              have := hun p.kind (by simp at h5; exact h5.2.2) (by omega)
              omega
            · split at hc
              · split at hc
                · rename_i h7
                  unfold scaleB at h7
                  simp only [Bool.and_eq_true, decide_eq_true_eq] at h7
                  exact h7.2.1
                · cases hc
              · rename_i h8
                have := hun p.kind (by simp at h5; exact h5.2.2) (by omega)
                omega
        exact ⟨⟨h.n, h.d, h.un, h.ud, h.sc, by omega, by omega⟩, hid⟩
end Go.Proofs.YtngckppnaflciaaDoor
