/- The walk of DayZero. -/
import Derived.Test.YthgdjocoiniphaaDoorDayP
import Derived.Test.YthgdjocoiniphaaDoorInRound
import Derived.Deep.RegionHeldLaw
namespace Go.Proofs.YthgdjocoiniphaaDoor
open Go.RowKit Go.Shelf
attribute [local go_sem] Oper.semAt_some

/-- what holds where some code runs to its end -/
def OnlyN (Q : Exit → Act → World → Prop) : Exit → Act → World → Prop
  | .normal, a, w => Q .normal a w
  | _, _, _ => False
theorem wp_onlyN {P : Program} {c : Code} {Q : Exit → Act → World → Prop} {a : Act} {w : World} (h : c.wp P (OnlyN Q) a w) : c.wp P Q a w := fun b k cs => by
  obtain ⟨e, a', w', q, r⟩ := h b k cs
  cases e <;> first | exact ⟨_, _, _, q, r⟩ | exact q.elim
theorem onlyN_normal {Q : Exit → Act → World → Prop} {a : Act} {w : World} (h : Q .normal a w) : OnlyN Q .normal a w := h

theorem days_any (A : Option Addr) (n c : Nat) (w : World) : Calls Tryd.prog 61 #[.agg #[.slice A n c]] w fun e w' => (∃ Bx, e = .returned (.func (.func 114) #[] #[.pointer (some ⟨Bx, 0, none⟩)]) ∧ w.heap.size ≤ Bx ∧ Hid (w'.heap[Bx]? = some (.cells #[.slice A n c] 77 (0, 0)))) ∧ Below w.heap.size w w' := by
  go_enter Tryd.func61, Tryd.ntmps61
  go_wp2_with fail
  go_ret
  exact ⟨⟨w.heap.size, rfl, Nat.le_refl _, blk_new rfl⟩, by (repeat' (first | with_reducible exact Below.refl _ _ | with_reducible assumption | with_reducible refine Below.drew ?_ | with_reducible refine below_drewN ?_ _ | with_reducible refine Below.setCell ?_ ?_ _ | with_reducible refine Below.alloc ?_ ?_ _ | omega | (simp; done) | (simp; omega)))⟩

/-- the empty set's days: none -/
theorem days0_stops (n Bx M : Nat) (hBx : Bx < M) (W0 : World) (hhi : M ≤ W0.heap.size) (h1 : Hid (W0.heap[Bx]? = some (.cells #[.slice none 0 0] 77 (0, 0)))) :
    SeqStopsK Fence.wide n Tryd.prog 114 #[.pointer (some ⟨Bx, 0, none⟩)] (fun x : Int => #[.int .i64 x]) (Below M) (fun ys => ys = []) (fun pre => pre <+: []) 0 W0 := fun lf J Jx W hW hJ _ hY h0 => by
  have h2 : Hid (W.heap[Bx]? = some (.cells #[.slice none 0 0] 77 (0, 0))) := (hW.block _ (Nat.lt_of_lt_of_le hBx hhi)).trans h1.out
  clear h1 hY
  refine callsIn_of_wp Tryd.func114 rfl trivial ?_ rfl; simp only [Tryd.ntmps114, List.size_toArray, List.length_cons, List.length_nil, Nat.reduceAdd, Nat.reduceSub, Array.replicate_succ, Array.replicate_zero, List.push_toArray, List.append_toArray, List.nil_append, List.cons_append]
  have c1 := cellH h2
  have l1 := lt_of_H h2
  gi_wp2
  refine wpIn_loop_rounds 1 ?_
  rw [roundsIn_succ]
  gi_wp2_with fail
  go_end0
  exact ⟨⟨_, rfl⟩, .inl ⟨_, rfl, h0⟩⟩

theorem nil_or {r s : List (Pc Unit)} (cs : Canon MD s) (h : SetOf MD ([] ++ s) r) : s = r := again_set cs h
theorem less_nil {r s : List (Pc Unit)} (cs : Canon MD s) (h : SetOf MD (lessP s []) r) : s = r :=
  cs.uniqD h.canon (fun n => by rw [h.has, lessP_has (b := 0) (m := []) trivial]; exact ⟨fun h => ⟨h, hasD_nil⟩, fun h => h.1⟩)
theorem nil_and {r s : List (Pc Unit)} (h : SetOf MD (andP [] s) r) : r = [] := List.eq_nil_of_length_eq_zero (Nat.le_zero.1 h.len)
theorem nil_less {r s : List (Pc Unit)} (h : SetOf MD (lessP [] s) r) : r = [] := List.eq_nil_of_length_eq_zero (Nat.le_zero.1 h.len)

set_option maxRecDepth 100000 in
set_option maxHeartbeats 16000000 in
theorem dayZero_x (l : List (Pc Unit)) (A : Option Addr) (c : Nat) (n : Int) (w : World) (hT : Tabs w) (h1 : 300 < l.length) :
    Calls Tryd.prog 13 #[.slice A l.length c, .int .i64 n] w fun e w' => e = .returned (.bool true) ∧ Below w.heap.size w w' := by
  have HFB := Lib.hid (fun w' (h : Below w.heap.size w w') => first3_any w' (hT.below h))
  have e1 : decide ((300 : Int) < (l.length : Int)) = true := decide_eq_true (by omega)
  clear hT
  go_enter Tryd.func13, Tryd.ntmps13
  go_wp2_with fail
  refine (HFB.out _ (by (repeat' (first | with_reducible exact Below.refl _ _ | with_reducible assumption | with_reducible refine Below.drew ?_ | with_reducible refine below_drewN ?_ _ | with_reducible refine Below.setCell ?_ ?_ _ | with_reducible refine Below.alloc ?_ ?_ _ | omega | (simp; done) | (simp; omega))))).mono ?_
  rintro e w1 ⟨rfl, hb1⟩
  have hw1 : Below w.heap.size w w1 := stepH (by (repeat' (first | with_reducible exact Below.refl _ _ | with_reducible assumption | with_reducible refine Below.drew ?_ | with_reducible refine below_drewN ?_ _ | with_reducible refine Below.setCell ?_ ?_ _ | with_reducible refine Below.alloc ?_ ?_ _ | omega | (simp; done) | (simp; omega)))) hb1
  have R := keepH hb1 (g := w.heap.size) (blk_new rfl)
  have z1 := hw1.size
  clear hb1
  have cR := cellH R
  obtain ⟨lR, lR1, lR2⟩ := ltH R
  have fzR := frozH R
  have cR9 := cellH (Lib.hid ((setBox R.out (.bool true))))
  go_wp2_with fail
  refine bodyPost_ret (v := .bool true) (by simp [results, Tryd.results13, go_sem, cR9]) rfl ⟨rfl, by (repeat' (first | with_reducible exact Below.refl _ _ | with_reducible assumption | with_reducible refine Below.drew ?_ | with_reducible refine below_drewN ?_ _ | with_reducible refine Below.setCell ?_ ?_ _ | with_reducible refine Below.alloc ?_ ?_ _ | omega | (simp; done) | (simp; omega)))⟩

set_option maxRecDepth 100000 in
set_option maxHeartbeats 16000000 in
theorem dayZero_a (l : List (Pc Unit)) (A : Option Addr) (c : Nat) (n : Int) (E : Nat → Addr) (w : World) (hl : RowAt encU 2 w w.heap.size A l) (hT : Tabs w) (hE : Env LD E w) (h1 : l.length ≤ 300) (hb : ∃ p ∈ l, ¬ ValidS MD p) :
    Calls Tryd.prog 13 #[.slice A l.length c, .int .i64 n] w fun e w' => e = .returned (.bool true) ∧ Below w.heap.size w w' := by
  have HFB := Lib.hid (fun w' (h : Below w.heap.size w w') => first3_any w' (hT.below h))
  have HLl := Lib.hid hl
  have HE := Lib.hid hE
  have e1 : decide ((300 : Int) < (l.length : Int)) = false := decide_eq_false (by omega)
  have HB := Lib.hid hb
  have hen := fun w => eql_nil (E 6) w
  clear hb
  clear hl hT hE
  go_enter Tryd.func13, Tryd.ntmps13
  go_wp2_with fail
  refine (HFB.out _ (by (repeat' (first | with_reducible exact Below.refl _ _ | with_reducible assumption | with_reducible refine Below.drew ?_ | with_reducible refine below_drewN ?_ _ | with_reducible refine Below.setCell ?_ ?_ _ | with_reducible refine Below.alloc ?_ ?_ _ | omega | (simp; done) | (simp; omega))))).mono ?_
  rintro e w1 ⟨rfl, hb1⟩
  have hw1 : Below w.heap.size w w1 := stepH (by (repeat' (first | with_reducible exact Below.refl _ _ | with_reducible assumption | with_reducible refine Below.drew ?_ | with_reducible refine below_drewN ?_ _ | with_reducible refine Below.setCell ?_ ?_ _ | with_reducible refine Below.alloc ?_ ?_ _ | omega | (simp; done) | (simp; omega)))) hb1
  have R := keepH hb1 (g := w.heap.size) (blk_new rfl)
  have z1 := hw1.size
  clear hb1
  have cR := cellH R
  obtain ⟨lR, lR1, lR2⟩ := ltH R
  go_wp2_with fail
  refine (makeS_bad l A c E _ (moved HLl.out (by (repeat' (first | with_reducible exact Below.refl _ _ | with_reducible assumption | with_reducible refine Below.drew ?_ | with_reducible refine below_drewN ?_ _ | with_reducible refine Below.setCell ?_ ?_ _ | with_reducible refine Below.alloc ?_ ?_ _ | omega | (simp; done) | (simp; omega))))) (by omega) HB.out ((HE.out.below (by (repeat' (first | with_reducible exact Below.refl _ _ | with_reducible assumption | with_reducible refine Below.drew ?_ | with_reducible refine below_drewN ?_ _ | with_reducible refine Below.setCell ?_ ?_ _ | with_reducible refine Below.alloc ?_ ?_ _ | omega | (simp; done) | (simp; omega))))).sub (by decide))).mono ?_
  rintro e w2 ⟨rfl, hb2⟩
  have hw2 : Below w.heap.size w w2 := stepH (by (repeat' (first | with_reducible exact Below.refl _ _ | with_reducible assumption | with_reducible refine Below.drew ?_ | with_reducible refine below_drewN ?_ _ | with_reducible refine Below.setCell ?_ ?_ _ | with_reducible refine Below.alloc ?_ ?_ _ | omega | (simp; done) | (simp; omega)))) hb2
  replace R := keepH hb2 R.out
  have z2 := hw2.size
  clear hb2 hw1 z1
  clear cR lR lR1 lR2
  have cR := cellH R
  obtain ⟨lR, lR1, lR2⟩ := ltH R
  have fzR := frozH R
  have cR9 := cellH (Lib.hid (blk_old (o := .cells #[.slice none 0 0] 77) (setBox R.out (.bool true))))
  go_wp2_with fail
  refine bodyPost_ret (v := .bool true) (by simp [results, Tryd.results13, go_sem, cR9]) rfl ⟨rfl, by (repeat' (first | with_reducible exact Below.refl _ _ | with_reducible assumption | with_reducible refine Below.drew ?_ | with_reducible refine below_drewN ?_ _ | with_reducible refine Below.setCell ?_ ?_ _ | with_reducible refine Below.alloc ?_ ?_ _ | omega | (simp; done) | (simp; omega)))⟩

set_option maxRecDepth 100000 in
set_option maxHeartbeats 16000000 in
theorem dayZero_g (l : List (Pc Unit)) (A : Option Addr) (c : Nat) (n : Int) (w : World) (hl : RowAt encU 2 w w.heap.size A l) (hT : Tabs w) (h1 : l.length ≤ 300) (hv : ∀ p ∈ l, ValidS MD p) :
    Calls Tryd.prog 13 #[.slice A l.length c, .int .i64 n] w fun e w' => e = .returned (.bool true) ∧ Below w.heap.size w w' := by
  have HFB := Lib.hid (fun w' (h : Below w.heap.size w w') => first3_any w' (hT.below h))
  have HLl := Lib.hid hl
  have e1 : decide ((300 : Int) < (l.length : Int)) = false := decide_eq_false (by omega)
  have HV := Lib.hid hv
  clear hl hT hv
  refine (callsIn_wide (n := 3)).1 ?_; refine callsIn_of_wp_marks Tryd.func13 rfl trivial ?_ rfl; simp only [Tryd.ntmps13, List.size_toArray, List.length_cons, List.length_nil, Nat.reduceAdd, Nat.reduceSub, Array.replicate_succ, Array.replicate_zero, List.push_toArray, List.append_toArray, List.nil_append, List.cons_append]
  gi_wp2_with fail
  first | refine wide_open ?_ | refine wide_open2 ?_
  refine (HFB.out _ (by (repeat' (first | with_reducible exact Below.refl _ _ | with_reducible assumption | with_reducible refine Below.drew ?_ | with_reducible refine below_drewN ?_ _ | with_reducible refine Below.setCell ?_ ?_ _ | with_reducible refine Below.alloc ?_ ?_ _ | omega | (simp; done) | (simp; omega))))).mono ?_
  rintro e w1 ⟨rfl, hb1⟩
  have hw1 : Below w.heap.size w w1 := stepH (by (repeat' (first | with_reducible exact Below.refl _ _ | with_reducible assumption | with_reducible refine Below.drew ?_ | with_reducible refine below_drewN ?_ _ | with_reducible refine Below.setCell ?_ ?_ _ | with_reducible refine Below.alloc ?_ ?_ _ | omega | (simp; done) | (simp; omega)))) hb1
  have R := keepH hb1 (g := w.heap.size) (blk_new rfl)
  have z1 := hw1.size
  clear hb1
  have cR := cellH R
  obtain ⟨lR, lR1, lR2⟩ := ltH R
  gi_wp2_with fail
  first | refine wide_open ?_ | refine wide_open2 ?_
  refine (makeS_ok l A c _ (moved HLl.out (by (repeat' (first | with_reducible exact Below.refl _ _ | with_reducible assumption | with_reducible refine Below.drew ?_ | with_reducible refine below_drewN ?_ _ | with_reducible refine Below.setCell ?_ ?_ _ | with_reducible refine Below.alloc ?_ ?_ _ | omega | (simp; done) | (simp; omega))))) (by omega) HV.out).mono ?_
  rintro e w2 ⟨⟨As, cs, rs, rfl, hrs, hAs, hss⟩, hb2⟩
  have hw2 : Below w.heap.size w w2 := stepH (by (repeat' (first | with_reducible exact Below.refl _ _ | with_reducible assumption | with_reducible refine Below.drew ?_ | with_reducible refine below_drewN ?_ _ | with_reducible refine Below.setCell ?_ ?_ _ | with_reducible refine Below.alloc ?_ ?_ _ | omega | (simp; done) | (simp; omega)))) hb2
  have HS := Lib.hid hrs
  have CS := Lib.hid hss
  have ls : rs.length ≤ 300 := by have h := hss.len; omega
  clear hrs hss
  replace R := keepH hb2 R.out
  have z2 := hw2.size
  clear hb2 hw1 z1
  clear cR lR lR1 lR2
  have cR := cellH R
  obtain ⟨lR, lR1, lR2⟩ := ltH R
  have aS : Below w2.heap.size w2 w2 := Below.refl _ _
  have yaS := aS.size
  gi_wp2_with fail
  first | refine wide_open ?_ | refine wide_open2 ?_
  refine (nextS_any [] none 0 n _ RowAt.nil (by simp)).mono ?_
  rintro e w3 ⟨rfl, hb3⟩
  have hw3 : Below w.heap.size w w3 := stepH (by (repeat' (first | with_reducible exact Below.refl _ _ | with_reducible assumption | with_reducible refine Below.drew ?_ | with_reducible refine below_drewN ?_ _ | with_reducible refine Below.setCell ?_ ?_ _ | with_reducible refine Below.alloc ?_ ?_ _ | omega | (simp; done) | (simp; omega)))) hb3
  replace aS : Below w2.heap.size w2 w3 := stepH (by (repeat' (first | with_reducible exact Below.refl _ _ | with_reducible assumption | with_reducible refine Below.drew ?_ | with_reducible refine below_drewN ?_ _ | with_reducible refine Below.setCell ?_ ?_ _ | with_reducible refine Below.alloc ?_ ?_ _ | omega | (simp; done) | (simp; omega)))) hb3
  replace yaS := aS.size
  replace R := keepH hb3 (blk_old (blk_old R.out))
  have S := keepH hb3 (g := w2.heap.size) (blk_old (blk_new rfl))
  have Z := keepH hb3 (g := w2.heap.size + 1) (blk_new (by simp))
  have z3 := hw3.size
  clear hb3 hw2 z2
  clear cR lR lR1 lR2
  have cR := cellH R
  obtain ⟨lR, lR1, lR2⟩ := ltH R
  have cS := cellH S
  obtain ⟨lS, lS1, lS2⟩ := ltH S
  have cZ := cellH Z
  obtain ⟨lZ, lZ1, lZ2⟩ := ltH Z
  gi_wp2_with fail
  refine (wpIn_wide (n := 3)).2 ?_
  clear cR lR lR1 lR2 cS lS lS1 lS2 cZ lZ lZ1 lZ2
  have xS : w3.cell? ⟨w2.heap.size, 0, none⟩ = some (.slice As rs.length cs) := cellH S 0
  have xZ : w3.cell? ⟨w2.heap.size + 1, 0, none⟩ = some (.slice none 0 0) := cellH Z 0
  refine wp_onlyN ?_
  refine wp_region_held_drew (S := fun w' => w'.cell? ⟨w2.heap.size, 0, none⟩ = some (.slice As rs.length cs) ∧ w'.cell? ⟨w2.heap.size + 1, 0, none⟩ = some (.slice none 0 0)) (by kernel_rfl) ?_ (fun hH0 => ?_)
  · exact ⟨xS, xZ⟩
  refine wpAnyH_take (i := 0) (oi := { dst := some 35, op := Go.Op.load 77 (Go.Operand.tmp 8), type := 77, pos := "law.go:201", after := #[], guard := none }) (v := ?_) rfl (by kernel_rfl) (by kernel_rfl) (by kernel_rfl) (fun _ _ _ h => h) (Or.inl ⟨by rfl, ?_⟩) (by assumption) ?_
  rotate_left
  · intro wq hSw; (try dsimp only at hSw); go_simp; (try with_reducible rfl)
  try simp only [Act.put, List.setIfInBounds_toArray, List.set_cons_zero, List.set_cons_succ]
  refine wpAnyH_take (i := 1) (oi := { dst := some 36, op := Go.Op.load 77 (Go.Operand.tmp 6), type := 77, pos := "law.go:201", after := #[], guard := none }) (v := ?_) rfl (by kernel_rfl) (by kernel_rfl) (by kernel_rfl) (fun _ _ _ h => h) (Or.inl ⟨by rfl, ?_⟩) (by assumption) ?_
  rotate_left
  · intro wq hSw; (try dsimp only at hSw); go_simp; (try with_reducible rfl)
  try simp only [Act.put, List.setIfInBounds_toArray, List.set_cons_zero, List.set_cons_succ]
  refine wpAnyH_take (i := 4) (oi := { dst := some 39, op := Go.Op.load 77 (Go.Operand.tmp 6), type := 77, pos := "law.go:201", after := #[], guard := none }) (v := ?_) rfl (by kernel_rfl) (by kernel_rfl) (by kernel_rfl) (fun _ _ _ h => h) (Or.inl ⟨by rfl, ?_⟩) (by assumption) ?_
  rotate_left
  · intro wq hSw; (try dsimp only at hSw); go_simp; (try with_reducible rfl)
  try simp only [Act.put, List.setIfInBounds_toArray, List.set_cons_zero, List.set_cons_succ]
  refine wpAnyH_ready (rs := [2]) (by kernel_rfl) (by simp) ?_
  refine AllReadyH.cons (o := { dst := some 37, op := Go.Op.call { callee := Go.Callee.value (Go.Operand.func 65), args := #[Go.Operand.tmp 35, Go.Operand.tmp 36], argTypes := #[77, 77] }, type := 77, pos := "law.go:201", after := #[{ on := 0, ground := Go.Ground.data }, { on := 1, ground := Go.Ground.data }], guard := none }) rfl (fun K hK => ?_) ?_
  rotate_left
  · exact AllReadyH.nil
  go_simp
  refine (or_any [] rs none As 0 cs _ RowAt.nil (moved HS.out aS.drew) (by simp) (by omega) (fun _ => rfl) hAs Canon.nil CS.out.canon).mono ?_
  rintro e w4 ⟨⟨Ap, cp, rp, rfl, hrp, hAp, hsp⟩, hb4⟩
  have hw4 : Below w.heap.size w w4 := stepH hw3.drew hb4
  have z4 := hw4.size
  replace aS : Below w2.heap.size w2 w4 := stepH aS.drew hb4
  replace yaS := aS.size
  replace R := keepH hb4 (drew_old R.out)
  replace S := keepH hb4 (drew_old S.out)
  replace Z := keepH hb4 (drew_old Z.out)
  replace xS : w4.cell? ⟨w2.heap.size, 0, none⟩ = some (.slice As rs.length cs) := cellOf hb4 (cell_drew xS)
  replace xZ : w4.cell? ⟨w2.heap.size + 1, 0, none⟩ = some (.slice none 0 0) := cellOf hb4 (cell_drew xZ)
  obtain rfl := nil_or CS.out.canon hsp
  have HP := Lib.hid hrp
  clear hrp hsp
  have aP : Below w4.heap.size w4 w4 := Below.refl _ _
  have yaP := aP.size
  clear hb4
  go_wp2_with fail
  refine hK.out _ _ ?_ (fun hH1 => ?_)
  · (try dsimp only); exact ⟨xS, xZ⟩
  clear hK K
  clear hH0
  try simp only [Act.put, List.setIfInBounds_toArray, List.set_cons_zero, List.set_cons_succ]
  refine wpAnyH_ready (rs := [3]) (by kernel_rfl) (by simp) ?_
  refine AllReadyH.cons (o := { dst := some 38, op := Go.Op.call { callee := Go.Callee.value (Go.Operand.func 43), args := #[Go.Operand.tmp 37], argTypes := #[77] }, type := 75, pos := "law.go:201", after := #[{ on := 2, ground := Go.Ground.data }, { on := 2, ground := Go.Ground.chain }], guard := none }) rfl (fun K hK => ?_) ?_
  rotate_left
  · exact AllReadyH.nil
  go_simp
  refine (spansD_any rs Ap cp _ (moved HP.out aP) (by omega) hAp).mono ?_
  rintro e w5 ⟨v4, rfl, hown4, hb5⟩
  have hw5 : Below w.heap.size w w5 := stepH hw4 hb5
  have z5 := hw5.size
  replace aS : Below w2.heap.size w2 w5 := stepH aS hb5
  replace yaS := aS.size
  replace aP : Below w4.heap.size w4 w5 := stepH aP hb5
  replace yaP := aP.size
  replace R := keepH hb5 R.out
  replace S := keepH hb5 S.out
  replace Z := keepH hb5 Z.out
  replace xS : w5.cell? ⟨w2.heap.size, 0, none⟩ = some (.slice As rs.length cs) := cellOf hb5 xS
  replace xZ : w5.cell? ⟨w2.heap.size + 1, 0, none⟩ = some (.slice none 0 0) := cellOf hb5 xZ
  obtain ⟨A4, c4, rfl, hq4, _, _⟩ := own_line (fun x _ => encU_len x) hown4
  have Q4 := Lib.hid hq4
  clear hown4 hq4
  have q4 : Below w5.heap.size w5 w5 := Below.refl _ _
  have yq4 := q4.size
  clear hb5
  go_wp2_with fail
  refine hK.out _ _ ?_ (fun hH2 => ?_)
  · (try dsimp only); exact ⟨xS, xZ⟩
  clear hK K
  clear hH1
  try simp only [Act.put, List.setIfInBounds_toArray, List.set_cons_zero, List.set_cons_succ]
  refine wpAnyH_ready (rs := [5]) (by kernel_rfl) (by simp) ?_
  refine AllReadyH.cons (o := { dst := some 40, op := Go.Op.call { callee := Go.Callee.value (Go.Operand.func 43), args := #[Go.Operand.tmp 39], argTypes := #[77] }, type := 75, pos := "law.go:201", after := #[{ on := 4, ground := Go.Ground.data }, { on := 3, ground := Go.Ground.chain }], guard := none }) rfl (fun K hK => ?_) ?_
  rotate_left
  · exact AllReadyH.nil
  go_simp
  refine (spansD_any rs As cs _ (moved HS.out aS) (by omega) hAs).mono ?_
  rintro e w6 ⟨v5, rfl, hown5, hb6⟩
  have hw6 : Below w.heap.size w w6 := stepH hw5 hb6
  have z6 := hw6.size
  replace aS : Below w2.heap.size w2 w6 := stepH aS hb6
  replace yaS := aS.size
  replace aP : Below w4.heap.size w4 w6 := stepH aP hb6
  replace yaP := aP.size
  replace q4 : Below w5.heap.size w5 w6 := stepH q4 hb6
  replace yq4 := q4.size
  replace R := keepH hb6 R.out
  replace S := keepH hb6 S.out
  replace Z := keepH hb6 Z.out
  replace xS : w6.cell? ⟨w2.heap.size, 0, none⟩ = some (.slice As rs.length cs) := cellOf hb6 xS
  replace xZ : w6.cell? ⟨w2.heap.size + 1, 0, none⟩ = some (.slice none 0 0) := cellOf hb6 xZ
  obtain ⟨A5, c5, rfl, hq5, _, _⟩ := own_line (fun x _ => encU_len x) hown5
  have Q5 := Lib.hid hq5
  clear hown5 hq5
  have q5 : Below w6.heap.size w6 w6 := Below.refl _ _
  have yq5 := q5.size
  clear hb6
  go_wp2_with fail
  refine hK.out _ _ ?_ (fun hH3 => ?_)
  · (try dsimp only); exact ⟨xS, xZ⟩
  clear hK K
  clear hH2
  try simp only [Act.put, List.setIfInBounds_toArray, List.set_cons_zero, List.set_cons_succ]
  refine wpAnyH_ready (rs := [6]) (by kernel_rfl) (by simp) ?_
  refine AllReadyH.cons (o := { dst := some 41, op := Go.Op.call { callee := Go.Callee.value (Go.Operand.func 53), args := #[Go.Operand.tmp 38, Go.Operand.tmp 40], argTypes := #[75, 75] }, type := 4, pos := "law.go:201", after := #[{ on := 3, ground := Go.Ground.data }, { on := 5, ground := Go.Ground.data }, { on := 5, ground := Go.Ground.chain }], guard := none }) rfl (fun K hK => ?_) ?_
  rotate_left
  · exact AllReadyH.nil
  go_simp
  refine (sameSpans_yes rs rs.length A4 A5 c4 c5 _ rfl (moved Q4.out q4) (moved Q5.out q5) (by omega)).mono ?_
  rintro e w7 ⟨rfl, hb7⟩
  have hw7 : Below w.heap.size w w7 := stepH hw6 hb7
  have z7 := hw7.size
  replace aS : Below w2.heap.size w2 w7 := stepH aS hb7
  replace yaS := aS.size
  replace aP : Below w4.heap.size w4 w7 := stepH aP hb7
  replace yaP := aP.size
  replace q4 : Below w5.heap.size w5 w7 := stepH q4 hb7
  replace yq4 := q4.size
  replace q5 : Below w6.heap.size w6 w7 := stepH q5 hb7
  replace yq5 := q5.size
  replace R := keepH hb7 R.out
  replace S := keepH hb7 S.out
  replace Z := keepH hb7 Z.out
  replace xS : w7.cell? ⟨w2.heap.size, 0, none⟩ = some (.slice As rs.length cs) := cellOf hb7 xS
  replace xZ : w7.cell? ⟨w2.heap.size + 1, 0, none⟩ = some (.slice none 0 0) := cellOf hb7 xZ
  clear hb7
  go_wp2_with fail
  refine hK.out _ _ ?_ (fun hH4 => ?_)
  · (try dsimp only); exact ⟨xS, xZ⟩
  clear hK K
  clear hH3
  try simp only [Act.put, List.setIfInBounds_toArray, List.set_cons_zero, List.set_cons_succ]
  refine wpAnyH_take (i := 7) (oi := { dst := some 11, op := Go.Op.assign (Go.Operand.tmp 41), type := 4, pos := "law.go:201", after := #[{ on := 6, ground := Go.Ground.data }, { on := 6, ground := Go.Ground.chain }, { on := 0, ground := Go.Ground.phase }, { on := 1, ground := Go.Ground.phase }, { on := 2, ground := Go.Ground.phase }, { on := 3, ground := Go.Ground.phase }, { on := 4, ground := Go.Ground.phase }, { on := 5, ground := Go.Ground.phase }, { on := 6, ground := Go.Ground.phase }], guard := none }) (v := ?_) rfl (by kernel_rfl) (by kernel_rfl) (by kernel_rfl) (fun _ _ _ h => h) (Or.inl ⟨by rfl, ?_⟩) (by assumption) ?_
  rotate_left
  · intro wq hSw; (try dsimp only at hSw); go_simp; (try with_reducible rfl)
  try simp only [Act.put, List.setIfInBounds_toArray, List.set_cons_zero, List.set_cons_succ]
  refine wpAnyH_done (by kernel_rfl) ?_ _
  refine onlyN_normal ?_
  clear xS xZ
  clear yaP aP yq4 q4 yq5 q5
  clear HP Q4 Q5
  gi_wp2_with fail
  refine (wpIn_wide (n := 3)).2 ?_
  have xS : w7.cell? ⟨w2.heap.size, 0, none⟩ = some (.slice As rs.length cs) := cellH S 0
  have xZ : w7.cell? ⟨w2.heap.size + 1, 0, none⟩ = some (.slice none 0 0) := cellH Z 0
  refine wp_onlyN ?_
  refine wp_region_held_drew (S := fun w' => w'.cell? ⟨w2.heap.size, 0, none⟩ = some (.slice As rs.length cs) ∧ w'.cell? ⟨w2.heap.size + 1, 0, none⟩ = some (.slice none 0 0)) (by kernel_rfl) ?_ (fun hH0 => ?_)
  · exact ⟨xS, xZ⟩
  refine wpAnyH_take (i := 0) (oi := { dst := some 42, op := Go.Op.load 77 (Go.Operand.tmp 6), type := 77, pos := "law.go:202", after := #[], guard := none }) (v := ?_) rfl (by kernel_rfl) (by kernel_rfl) (by kernel_rfl) (fun _ _ _ h => h) (Or.inl ⟨by rfl, ?_⟩) (by assumption) ?_
  rotate_left
  · intro wq hSw; (try dsimp only at hSw); go_simp; (try with_reducible rfl)
  try simp only [Act.put, List.setIfInBounds_toArray, List.set_cons_zero, List.set_cons_succ]
  refine wpAnyH_take (i := 1) (oi := { dst := some 43, op := Go.Op.load 77 (Go.Operand.tmp 8), type := 77, pos := "law.go:202", after := #[], guard := none }) (v := ?_) rfl (by kernel_rfl) (by kernel_rfl) (by kernel_rfl) (fun _ _ _ h => h) (Or.inl ⟨by rfl, ?_⟩) (by assumption) ?_
  rotate_left
  · intro wq hSw; (try dsimp only at hSw); go_simp; (try with_reducible rfl)
  try simp only [Act.put, List.setIfInBounds_toArray, List.set_cons_zero, List.set_cons_succ]
  refine wpAnyH_take (i := 4) (oi := { dst := some 46, op := Go.Op.load 77 (Go.Operand.tmp 6), type := 77, pos := "law.go:202", after := #[], guard := none }) (v := ?_) rfl (by kernel_rfl) (by kernel_rfl) (by kernel_rfl) (fun _ _ _ h => h) (Or.inl ⟨by rfl, ?_⟩) (by assumption) ?_
  rotate_left
  · intro wq hSw; (try dsimp only at hSw); go_simp; (try with_reducible rfl)
  try simp only [Act.put, List.setIfInBounds_toArray, List.set_cons_zero, List.set_cons_succ]
  refine wpAnyH_ready (rs := [2]) (by kernel_rfl) (by simp) ?_
  refine AllReadyH.cons (o := { dst := some 44, op := Go.Op.call { callee := Go.Callee.value (Go.Operand.func 66), args := #[Go.Operand.tmp 42, Go.Operand.tmp 43], argTypes := #[77, 77] }, type := 77, pos := "law.go:202", after := #[{ on := 0, ground := Go.Ground.data }, { on := 1, ground := Go.Ground.data }], guard := none }) rfl (fun K hK => ?_) ?_
  rotate_left
  · exact AllReadyH.nil
  go_simp
  refine (less_any rs [] As none cs 0 _ (moved HS.out aS.drew) RowAt.nil (by omega) (by simp) CS.out.canon Canon.nil).mono ?_
  rintro e w8 ⟨⟨Ap, cp, rp, rfl, hrp, hAp, hsp⟩, hb8⟩
  have hw8 : Below w.heap.size w w8 := stepH hw7.drew hb8
  have z8 := hw8.size
  replace aS : Below w2.heap.size w2 w8 := stepH aS.drew hb8
  replace yaS := aS.size
  replace R := keepH hb8 (drew_old R.out)
  replace S := keepH hb8 (drew_old S.out)
  replace Z := keepH hb8 (drew_old Z.out)
  replace xS : w8.cell? ⟨w2.heap.size, 0, none⟩ = some (.slice As rs.length cs) := cellOf hb8 (cell_drew xS)
  replace xZ : w8.cell? ⟨w2.heap.size + 1, 0, none⟩ = some (.slice none 0 0) := cellOf hb8 (cell_drew xZ)
  obtain rfl := less_nil CS.out.canon hsp
  have HP := Lib.hid hrp
  clear hrp hsp
  have aP : Below w8.heap.size w8 w8 := Below.refl _ _
  have yaP := aP.size
  clear hb8
  go_wp2_with fail
  refine hK.out _ _ ?_ (fun hH1 => ?_)
  · (try dsimp only); exact ⟨xS, xZ⟩
  clear hK K
  clear hH0
  try simp only [Act.put, List.setIfInBounds_toArray, List.set_cons_zero, List.set_cons_succ]
  refine wpAnyH_ready (rs := [3]) (by kernel_rfl) (by simp) ?_
  refine AllReadyH.cons (o := { dst := some 45, op := Go.Op.call { callee := Go.Callee.value (Go.Operand.func 43), args := #[Go.Operand.tmp 44], argTypes := #[77] }, type := 75, pos := "law.go:202", after := #[{ on := 2, ground := Go.Ground.data }, { on := 2, ground := Go.Ground.chain }], guard := none }) rfl (fun K hK => ?_) ?_
  rotate_left
  · exact AllReadyH.nil
  go_simp
  refine (spansD_any rs Ap cp _ (moved HP.out aP) (by omega) hAp).mono ?_
  rintro e w9 ⟨v4, rfl, hown4, hb9⟩
  have hw9 : Below w.heap.size w w9 := stepH hw8 hb9
  have z9 := hw9.size
  replace aS : Below w2.heap.size w2 w9 := stepH aS hb9
  replace yaS := aS.size
  replace aP : Below w8.heap.size w8 w9 := stepH aP hb9
  replace yaP := aP.size
  replace R := keepH hb9 R.out
  replace S := keepH hb9 S.out
  replace Z := keepH hb9 Z.out
  replace xS : w9.cell? ⟨w2.heap.size, 0, none⟩ = some (.slice As rs.length cs) := cellOf hb9 xS
  replace xZ : w9.cell? ⟨w2.heap.size + 1, 0, none⟩ = some (.slice none 0 0) := cellOf hb9 xZ
  obtain ⟨A4, c4, rfl, hq4, _, _⟩ := own_line (fun x _ => encU_len x) hown4
  have Q4 := Lib.hid hq4
  clear hown4 hq4
  have q4 : Below w9.heap.size w9 w9 := Below.refl _ _
  have yq4 := q4.size
  clear hb9
  go_wp2_with fail
  refine hK.out _ _ ?_ (fun hH2 => ?_)
  · (try dsimp only); exact ⟨xS, xZ⟩
  clear hK K
  clear hH1
  try simp only [Act.put, List.setIfInBounds_toArray, List.set_cons_zero, List.set_cons_succ]
  refine wpAnyH_ready (rs := [5]) (by kernel_rfl) (by simp) ?_
  refine AllReadyH.cons (o := { dst := some 47, op := Go.Op.call { callee := Go.Callee.value (Go.Operand.func 43), args := #[Go.Operand.tmp 46], argTypes := #[77] }, type := 75, pos := "law.go:202", after := #[{ on := 4, ground := Go.Ground.data }, { on := 3, ground := Go.Ground.chain }], guard := none }) rfl (fun K hK => ?_) ?_
  rotate_left
  · exact AllReadyH.nil
  go_simp
  refine (spansD_any rs As cs _ (moved HS.out aS) (by omega) hAs).mono ?_
  rintro e w10 ⟨v5, rfl, hown5, hb10⟩
  have hw10 : Below w.heap.size w w10 := stepH hw9 hb10
  have z10 := hw10.size
  replace aS : Below w2.heap.size w2 w10 := stepH aS hb10
  replace yaS := aS.size
  replace aP : Below w8.heap.size w8 w10 := stepH aP hb10
  replace yaP := aP.size
  replace q4 : Below w9.heap.size w9 w10 := stepH q4 hb10
  replace yq4 := q4.size
  replace R := keepH hb10 R.out
  replace S := keepH hb10 S.out
  replace Z := keepH hb10 Z.out
  replace xS : w10.cell? ⟨w2.heap.size, 0, none⟩ = some (.slice As rs.length cs) := cellOf hb10 xS
  replace xZ : w10.cell? ⟨w2.heap.size + 1, 0, none⟩ = some (.slice none 0 0) := cellOf hb10 xZ
  obtain ⟨A5, c5, rfl, hq5, _, _⟩ := own_line (fun x _ => encU_len x) hown5
  have Q5 := Lib.hid hq5
  clear hown5 hq5
  have q5 : Below w10.heap.size w10 w10 := Below.refl _ _
  have yq5 := q5.size
  clear hb10
  go_wp2_with fail
  refine hK.out _ _ ?_ (fun hH3 => ?_)
  · (try dsimp only); exact ⟨xS, xZ⟩
  clear hK K
  clear hH2
  try simp only [Act.put, List.setIfInBounds_toArray, List.set_cons_zero, List.set_cons_succ]
  refine wpAnyH_ready (rs := [6]) (by kernel_rfl) (by simp) ?_
  refine AllReadyH.cons (o := { dst := some 48, op := Go.Op.call { callee := Go.Callee.value (Go.Operand.func 53), args := #[Go.Operand.tmp 45, Go.Operand.tmp 47], argTypes := #[75, 75] }, type := 4, pos := "law.go:202", after := #[{ on := 3, ground := Go.Ground.data }, { on := 5, ground := Go.Ground.data }, { on := 5, ground := Go.Ground.chain }], guard := none }) rfl (fun K hK => ?_) ?_
  rotate_left
  · exact AllReadyH.nil
  go_simp
  refine (sameSpans_yes rs rs.length A4 A5 c4 c5 _ rfl (moved Q4.out q4) (moved Q5.out q5) (by omega)).mono ?_
  rintro e w11 ⟨rfl, hb11⟩
  have hw11 : Below w.heap.size w w11 := stepH hw10 hb11
  have z11 := hw11.size
  replace aS : Below w2.heap.size w2 w11 := stepH aS hb11
  replace yaS := aS.size
  replace aP : Below w8.heap.size w8 w11 := stepH aP hb11
  replace yaP := aP.size
  replace q4 : Below w9.heap.size w9 w11 := stepH q4 hb11
  replace yq4 := q4.size
  replace q5 : Below w10.heap.size w10 w11 := stepH q5 hb11
  replace yq5 := q5.size
  replace R := keepH hb11 R.out
  replace S := keepH hb11 S.out
  replace Z := keepH hb11 Z.out
  replace xS : w11.cell? ⟨w2.heap.size, 0, none⟩ = some (.slice As rs.length cs) := cellOf hb11 xS
  replace xZ : w11.cell? ⟨w2.heap.size + 1, 0, none⟩ = some (.slice none 0 0) := cellOf hb11 xZ
  clear hb11
  go_wp2_with fail
  refine hK.out _ _ ?_ (fun hH4 => ?_)
  · (try dsimp only); exact ⟨xS, xZ⟩
  clear hK K
  clear hH3
  try simp only [Act.put, List.setIfInBounds_toArray, List.set_cons_zero, List.set_cons_succ]
  refine wpAnyH_take (i := 7) (oi := { dst := some 12, op := Go.Op.assign (Go.Operand.tmp 48), type := 4, pos := "law.go:202", after := #[{ on := 6, ground := Go.Ground.data }, { on := 6, ground := Go.Ground.chain }, { on := 0, ground := Go.Ground.phase }, { on := 1, ground := Go.Ground.phase }, { on := 2, ground := Go.Ground.phase }, { on := 3, ground := Go.Ground.phase }, { on := 4, ground := Go.Ground.phase }, { on := 5, ground := Go.Ground.phase }, { on := 6, ground := Go.Ground.phase }], guard := none }) (v := ?_) rfl (by kernel_rfl) (by kernel_rfl) (by kernel_rfl) (fun _ _ _ h => h) (Or.inl ⟨by rfl, ?_⟩) (by assumption) ?_
  rotate_left
  · intro wq hSw; (try dsimp only at hSw); go_simp; (try with_reducible rfl)
  try simp only [Act.put, List.setIfInBounds_toArray, List.set_cons_zero, List.set_cons_succ]
  refine wpAnyH_done (by kernel_rfl) ?_ _
  refine onlyN_normal ?_
  clear xS xZ
  clear yaP aP yq4 q4 yq5 q5
  clear HP Q4 Q5
  have cR := cellH R
  obtain ⟨lR, lR1, lR2⟩ := ltH R
  have cS := cellH S
  obtain ⟨lS, lS1, lS2⟩ := ltH S
  have cZ := cellH Z
  obtain ⟨lZ, lZ1, lZ2⟩ := ltH Z
  gi_wp2_with fail
  first | refine wide_open ?_ | refine wide_open2 ?_
  refine (days_any none 0 0 _).mono ?_
  rintro e w12 ⟨⟨Bx, rfl, hBx, hbox⟩, hb12⟩
  have hw12 : Below w.heap.size w w12 := stepH (by (repeat' (first | with_reducible exact Below.refl _ _ | with_reducible assumption | with_reducible refine Below.drew ?_ | with_reducible refine below_drewN ?_ _ | with_reducible refine Below.setCell ?_ ?_ _ | with_reducible refine Below.alloc ?_ ?_ _ | omega | (simp; done) | (simp; omega)))) hb12
  replace aS : Below w2.heap.size w2 w12 := stepH (by (repeat' (first | with_reducible exact Below.refl _ _ | with_reducible assumption | with_reducible refine Below.drew ?_ | with_reducible refine below_drewN ?_ _ | with_reducible refine Below.setCell ?_ ?_ _ | with_reducible refine Below.alloc ?_ ?_ _ | omega | (simp; done) | (simp; omega)))) hb12
  replace yaS := aS.size
  have HBOX := hbox
  clear hbox
  replace R := keepH hb12 R.out
  replace S := keepH hb12 S.out
  replace Z := keepH hb12 Z.out
  have z12 := hw12.size
  clear hb12 hw11 z11
  clear cR lR lR1 lR2 cS lS lS1 lS2 cZ lZ lZ1 lZ2
  have cR := cellH R
  obtain ⟨lR, lR1, lR2⟩ := ltH R
  have cS := cellH S
  obtain ⟨lS, lS1, lS2⟩ := ltH S
  have cZ := cellH Z
  obtain ⟨lZ, lZ1, lZ2⟩ := ltH Z
  gi_wp2_with fail
  have lBx := lt_of_H HBOX
  have hII : ∀ B, w12.heap.size ≤ B → OwnFrom B (fun (_ : List Int) W => Below w12.heap.size w12 W) := fun B hB _ W W' row hs hg hr => Below.grown hs hg hs.size (fun k e => by have := (hr k e).1; omega)
  generalize ha : Act.mk _ _ = a0
  refine wpIn_rangeFunc_ownH rfl (by decide) (gf := 114) (lb := #[.pointer (some ⟨Bx, 0, none⟩)]) (by rw [← ha]; rfl) trivial (enters_of Tryd.func114 (by kernel_rfl) rfl)
    (days0_stops (3 - 1) Bx w12.heap.size lBx w12 (Nat.le_refl _) HBOX)
    Below.trans (fun W l o o' hl h q1 q2 => (keepR_b (m := w12.heap.size) (lo := 0) (hi := 0) (Nat.le_refl _) (Nat.zero_le _) W l o o' hl h q1 q2).below) (Below.refl _ _) (fun x => rfl)
    (fun _ W => Below w12.heap.size w12 W) (fun _ _ _ => False) (hII _ (Nat.le_refl _)) (fun c _ _ _ _ h _ _ => h) (Below.refl _ _)
    (fun x a' W => True) (fun x a' s W W' row hs hg hr => trivial) ?assign ?body ?done ?stop
  case assign =>
    intro l9 pre x W K hI hK
    gi_wp2_with fail
    exact hK _ _ (KeepsFrom.refl _ _) (Below.refl _ _) hI trivial
  case body =>
    rintro l9 pre x a' wq hl9 ⟨rr, hrr⟩ i1 p2 hlt
    exact absurd hlt (Nat.not_lt_zero _)
  case stop =>
    rintro D1 c pre W hD hpre hX hK
    exact hX.elim
  case done =>
    intro D xs W hD hxs hI hK
    subst ha
    replace R := keepH hI R.out
    replace S := keepH hI S.out
    replace Z := keepH hI Z.out
    have hw13 : Below w.heap.size w W := hw12.trans (hI.mono hw12.size)
    replace aS : Below w2.heap.size w2 W := aS.trans (hI.mono aS.size)
    replace yaS := aS.size
    clear cR lR lR1 lR2 cS lS lS1 lS2 cZ lZ lZ1 lZ2
    have z13 := hw13.size
    have HKD := Lib.hid hK
    clear hI hK
    have cR := cellH R
    obtain ⟨lR, lR1, lR2⟩ := ltH R
    have cS := cellH S
    obtain ⟨lS, lS1, lS2⟩ := ltH S
    have cZ := cellH Z
    obtain ⟨lZ, lZ1, lZ2⟩ := ltH Z
    gi_wp2_with fail
    first | refine wide_open ?_ | refine wide_open2 ?_
    refine (hasS_any [] none 0 n _ RowAt.nil (by simp)).mono ?_
    rintro e w14 ⟨rfl, hb14⟩
    have hw14 : Below w.heap.size w w14 := stepH (by (repeat' (first | with_reducible exact Below.refl _ _ | with_reducible assumption | with_reducible refine Below.drew ?_ | with_reducible refine below_drewN ?_ _ | with_reducible refine Below.setCell ?_ ?_ _ | with_reducible refine Below.alloc ?_ ?_ _ | omega | (simp; done) | (simp; omega)))) hb14
    replace aS : Below w2.heap.size w2 w14 := stepH (by (repeat' (first | with_reducible exact Below.refl _ _ | with_reducible assumption | with_reducible refine Below.drew ?_ | with_reducible refine below_drewN ?_ _ | with_reducible refine Below.setCell ?_ ?_ _ | with_reducible refine Below.alloc ?_ ?_ _ | omega | (simp; done) | (simp; omega)))) hb14
    replace yaS := aS.size
    replace HKD := keepH hb14 HKD.out
    replace R := keepH hb14 R.out
    replace S := keepH hb14 S.out
    replace Z := keepH hb14 Z.out
    have z14 := hw14.size
    clear hb14 hw13 z13
    clear cR lR lR1 lR2 cS lS lS1 lS2 cZ lZ lZ1 lZ2
    have cR := cellH R
    obtain ⟨lR, lR1, lR2⟩ := ltH R
    have cS := cellH S
    obtain ⟨lS, lS1, lS2⟩ := ltH S
    have cZ := cellH Z
    obtain ⟨lZ, lZ1, lZ2⟩ := ltH Z
    gi_wp2_with fail
    first | refine wide_open ?_ | refine wide_open2 ?_
    refine (lenS_any [] none 0 _ RowAt.nil (by simp) Canon.nil).mono ?_
    rintro e w15 ⟨rfl, hb15⟩
    have hw15 : Below w.heap.size w w15 := stepH (by (repeat' (first | with_reducible exact Below.refl _ _ | with_reducible assumption | with_reducible refine Below.drew ?_ | with_reducible refine below_drewN ?_ _ | with_reducible refine Below.setCell ?_ ?_ _ | with_reducible refine Below.alloc ?_ ?_ _ | omega | (simp; done) | (simp; omega)))) hb15
    replace aS : Below w2.heap.size w2 w15 := stepH (by (repeat' (first | with_reducible exact Below.refl _ _ | with_reducible assumption | with_reducible refine Below.drew ?_ | with_reducible refine below_drewN ?_ _ | with_reducible refine Below.setCell ?_ ?_ _ | with_reducible refine Below.alloc ?_ ?_ _ | omega | (simp; done) | (simp; omega)))) hb15
    replace yaS := aS.size
    replace HKD := keepH hb15 HKD.out
    replace R := keepH hb15 R.out
    replace S := keepH hb15 S.out
    replace Z := keepH hb15 Z.out
    have z15 := hw15.size
    clear hb15 hw14 z14
    clear cR lR lR1 lR2 cS lS lS1 lS2 cZ lZ lZ1 lZ2
    have cR := cellH R
    obtain ⟨lR, lR1, lR2⟩ := ltH R
    have cS := cellH S
    obtain ⟨lS, lS1, lS2⟩ := ltH S
    have cZ := cellH Z
    obtain ⟨lZ, lZ1, lZ2⟩ := ltH Z
    gi_wp2_with fail
    first | refine wide_open ?_ | refine wide_open2 ?_
    refine (spansD_any [] none 0 _ RowAt.nil (by simp) (fun _ => rfl)).mono ?_
    rintro e w16 ⟨v6, rfl, hown6, hb16⟩
    have hw16 : Below w.heap.size w w16 := stepH (by (repeat' (first | with_reducible exact Below.refl _ _ | with_reducible assumption | with_reducible refine Below.drew ?_ | with_reducible refine below_drewN ?_ _ | with_reducible refine Below.setCell ?_ ?_ _ | with_reducible refine Below.alloc ?_ ?_ _ | omega | (simp; done) | (simp; omega)))) hb16
    replace aS : Below w2.heap.size w2 w16 := stepH (by (repeat' (first | with_reducible exact Below.refl _ _ | with_reducible assumption | with_reducible refine Below.drew ?_ | with_reducible refine below_drewN ?_ _ | with_reducible refine Below.setCell ?_ ?_ _ | with_reducible refine Below.alloc ?_ ?_ _ | omega | (simp; done) | (simp; omega)))) hb16
    replace yaS := aS.size
    replace HKD := keepH hb16 HKD.out
    obtain ⟨A6, c6, rfl, _, _, _⟩ := own_line (fun x _ => encU_len x) hown6
    clear hown6
    replace R := keepH hb16 R.out
    replace S := keepH hb16 S.out
    replace Z := keepH hb16 Z.out
    have z16 := hw16.size
    clear hb16 hw15 z15
    clear cR lR lR1 lR2 cS lS lS1 lS2 cZ lZ lZ1 lZ2
    have cR := cellH R
    obtain ⟨lR, lR1, lR2⟩ := ltH R
    have cS := cellH S
    obtain ⟨lS, lS1, lS2⟩ := ltH S
    have cZ := cellH Z
    obtain ⟨lZ, lZ1, lZ2⟩ := ltH Z
    gi_wp2_with fail
    first | refine wide_open ?_ | refine wide_open2 ?_
    refine (and_any [] rs none As 0 cs _ RowAt.nil (moved HS.out (by (repeat' (first | with_reducible exact Below.refl _ _ | with_reducible assumption | with_reducible refine Below.drew ?_ | with_reducible refine below_drewN ?_ _ | with_reducible refine Below.setCell ?_ ?_ _ | with_reducible refine Below.alloc ?_ ?_ _ | omega | (simp; done) | (simp; omega))))) (by simp) (by omega) Canon.nil CS.out.canon).mono ?_
    rintro e w17 ⟨⟨Ax0, cx0, rx0, rfl, hrx0, hAx0, hsx0⟩, hb17⟩
    have hw17 : Below w.heap.size w w17 := stepH (by (repeat' (first | with_reducible exact Below.refl _ _ | with_reducible assumption | with_reducible refine Below.drew ?_ | with_reducible refine below_drewN ?_ _ | with_reducible refine Below.setCell ?_ ?_ _ | with_reducible refine Below.alloc ?_ ?_ _ | omega | (simp; done) | (simp; omega)))) hb17
    replace aS : Below w2.heap.size w2 w17 := stepH (by (repeat' (first | with_reducible exact Below.refl _ _ | with_reducible assumption | with_reducible refine Below.drew ?_ | with_reducible refine below_drewN ?_ _ | with_reducible refine Below.setCell ?_ ?_ _ | with_reducible refine Below.alloc ?_ ?_ _ | omega | (simp; done) | (simp; omega)))) hb17
    replace yaS := aS.size
    replace HKD := keepH hb17 HKD.out
    obtain rfl := nil_and hsx0
    have HX0 := Lib.hid hrx0
    clear hrx0 hsx0
    replace R := keepH hb17 R.out
    replace S := keepH hb17 S.out
    replace Z := keepH hb17 Z.out
    have z17 := hw17.size
    clear hb17 hw16 z16
    clear cR lR lR1 lR2 cS lS lS1 lS2 cZ lZ lZ1 lZ2
    have cR := cellH R
    obtain ⟨lR, lR1, lR2⟩ := ltH R
    have cS := cellH S
    obtain ⟨lS, lS1, lS2⟩ := ltH S
    have cZ := cellH Z
    obtain ⟨lZ, lZ1, lZ2⟩ := ltH Z
    gi_wp2_with fail
    first | refine wide_open ?_ | refine wide_open2 ?_
    refine (lenS_any [] Ax0 cx0 _ RowAt.nil (by simp) Canon.nil).mono ?_
    rintro e w18 ⟨rfl, hb18⟩
    have hw18 : Below w.heap.size w w18 := stepH (by (repeat' (first | with_reducible exact Below.refl _ _ | with_reducible assumption | with_reducible refine Below.drew ?_ | with_reducible refine below_drewN ?_ _ | with_reducible refine Below.setCell ?_ ?_ _ | with_reducible refine Below.alloc ?_ ?_ _ | omega | (simp; done) | (simp; omega)))) hb18
    replace aS : Below w2.heap.size w2 w18 := stepH (by (repeat' (first | with_reducible exact Below.refl _ _ | with_reducible assumption | with_reducible refine Below.drew ?_ | with_reducible refine below_drewN ?_ _ | with_reducible refine Below.setCell ?_ ?_ _ | with_reducible refine Below.alloc ?_ ?_ _ | omega | (simp; done) | (simp; omega)))) hb18
    replace yaS := aS.size
    replace HKD := keepH hb18 HKD.out
    replace R := keepH hb18 R.out
    replace S := keepH hb18 S.out
    replace Z := keepH hb18 Z.out
    have z18 := hw18.size
    clear hb18 hw17 z17
    clear cR lR lR1 lR2 cS lS lS1 lS2 cZ lZ lZ1 lZ2
    have cR := cellH R
    obtain ⟨lR, lR1, lR2⟩ := ltH R
    have cS := cellH S
    obtain ⟨lS, lS1, lS2⟩ := ltH S
    have cZ := cellH Z
    obtain ⟨lZ, lZ1, lZ2⟩ := ltH Z
    gi_wp2_with fail
    first | refine wide_open ?_ | refine wide_open2 ?_
    refine (less_any [] rs none As 0 cs _ RowAt.nil (moved HS.out (by (repeat' (first | with_reducible exact Below.refl _ _ | with_reducible assumption | with_reducible refine Below.drew ?_ | with_reducible refine below_drewN ?_ _ | with_reducible refine Below.setCell ?_ ?_ _ | with_reducible refine Below.alloc ?_ ?_ _ | omega | (simp; done) | (simp; omega))))) (by simp) (by omega) Canon.nil CS.out.canon).mono ?_
    rintro e w19 ⟨⟨Ax1, cx1, rx1, rfl, hrx1, hAx1, hsx1⟩, hb19⟩
    have hw19 : Below w.heap.size w w19 := stepH (by (repeat' (first | with_reducible exact Below.refl _ _ | with_reducible assumption | with_reducible refine Below.drew ?_ | with_reducible refine below_drewN ?_ _ | with_reducible refine Below.setCell ?_ ?_ _ | with_reducible refine Below.alloc ?_ ?_ _ | omega | (simp; done) | (simp; omega)))) hb19
    replace aS : Below w2.heap.size w2 w19 := stepH (by (repeat' (first | with_reducible exact Below.refl _ _ | with_reducible assumption | with_reducible refine Below.drew ?_ | with_reducible refine below_drewN ?_ _ | with_reducible refine Below.setCell ?_ ?_ _ | with_reducible refine Below.alloc ?_ ?_ _ | omega | (simp; done) | (simp; omega)))) hb19
    replace yaS := aS.size
    replace HKD := keepH hb19 HKD.out
    obtain rfl := nil_less hsx1
    have HX1 := Lib.hid hrx1
    clear hrx1 hsx1
    replace R := keepH hb19 R.out
    replace S := keepH hb19 S.out
    replace Z := keepH hb19 Z.out
    have z19 := hw19.size
    clear hb19 hw18 z18
    clear cR lR lR1 lR2 cS lS lS1 lS2 cZ lZ lZ1 lZ2
    have cR := cellH R
    obtain ⟨lR, lR1, lR2⟩ := ltH R
    have cS := cellH S
    obtain ⟨lS, lS1, lS2⟩ := ltH S
    have cZ := cellH Z
    obtain ⟨lZ, lZ1, lZ2⟩ := ltH Z
    gi_wp2_with fail
    first | refine wide_open ?_ | refine wide_open2 ?_
    refine (lenS_any [] Ax1 cx1 _ RowAt.nil (by simp) Canon.nil).mono ?_
    rintro e w20 ⟨rfl, hb20⟩
    have hw20 : Below w.heap.size w w20 := stepH (by (repeat' (first | with_reducible exact Below.refl _ _ | with_reducible assumption | with_reducible refine Below.drew ?_ | with_reducible refine below_drewN ?_ _ | with_reducible refine Below.setCell ?_ ?_ _ | with_reducible refine Below.alloc ?_ ?_ _ | omega | (simp; done) | (simp; omega)))) hb20
    replace aS : Below w2.heap.size w2 w20 := stepH (by (repeat' (first | with_reducible exact Below.refl _ _ | with_reducible assumption | with_reducible refine Below.drew ?_ | with_reducible refine below_drewN ?_ _ | with_reducible refine Below.setCell ?_ ?_ _ | with_reducible refine Below.alloc ?_ ?_ _ | omega | (simp; done) | (simp; omega)))) hb20
    replace yaS := aS.size
    replace HKD := keepH hb20 HKD.out
    replace R := keepH hb20 R.out
    replace S := keepH hb20 S.out
    replace Z := keepH hb20 Z.out
    have z20 := hw20.size
    clear hb20 hw19 z19
    clear cR lR lR1 lR2 cS lS lS1 lS2 cZ lZ lZ1 lZ2
    have cR := cellH R
    obtain ⟨lR, lR1, lR2⟩ := ltH R
    have cS := cellH S
    obtain ⟨lS, lS1, lS2⟩ := ltH S
    have cZ := cellH Z
    obtain ⟨lZ, lZ1, lZ2⟩ := ltH Z
    have fzR := frozH R
    have lD := lt_of_H HKD
    have hDR : D ≠ w.heap.size := by intro e; have h := HKD.out; rw [e, R.out] at h; cases h
    skip
    gi_wp2_with fail
    have k0 : (w20.setCell ⟨w.heap.size, 0, none⟩ (.bool true)).heap[D]? = some (.deferred (some [])) := (KeepsOthers.setCell _ _ _).same D _ HKD.out rfl
    have HR : Hid (((w20.setCell ⟨w.heap.size, 0, none⟩ (.bool true)).putObj D (.deferred none)).heap[w.heap.size]? = some (.cells #[.bool true] 4 (0, 0))) := (World.putObj_heap_other (by omega)).trans (setBox R.out _)
    have hB : Below w.heap.size w ((w20.setCell ⟨w.heap.size, 0, none⟩ (.bool true)).putObj D (.deferred none)) := Below.trans (hw20.setCell (by simp) _) (belowK_b (w := w) (Nat.le_refl _) _ D _ _ (by omega) k0 rfl rfl)
    refine ⟨by simp, .inl ⟨_, _, rfl, run_takeDeferred k0, ?_⟩⟩
    clear k0
    generalize ((w20.setCell ⟨w.heap.size, 0, none⟩ (.bool true)).putObj D (.deferred none)) = wz at HR hB ⊢
    have c4 := cellH HR
    exact ⟨_, (by simp [results, Tryd.results13, go_sem, c4]), rfl, hB⟩

set_option maxRecDepth 100000 in
theorem dayZero_walk (l : List (Pc Unit)) (A : Option Addr) (c : Nat) (n : Int) (E : Nat → Addr) (w : World) (hl : RowAt encU 2 w w.heap.size A l) (hT : Tabs w) (hE : Env LD E w) :
    Calls Tryd.prog 13 #[.slice A l.length c, .int .i64 n] w fun e w' => e = .returned (.bool true) ∧ Below w.heap.size w w' := by
  by_cases h1 : 300 < l.length
  · exact dayZero_x l A c n w hT h1
  · by_cases hv : ∀ p ∈ l, ValidS MD p
    · exact dayZero_g l A c n w hl hT (by omega) hv
    · exact dayZero_a l A c n E w hl hT hE (by omega) (Classical.byContradiction fun h => hv fun p hp => Classical.byContradiction fun hn => h ⟨p, hp, hn⟩)

end Go.Proofs.YthgdjocoiniphaaDoor
