/- AmendLeast: the law's walk. -/
import Derived.Test.YtmoeoomlggjaaaaGreatDoorAnH
namespace Go.Proofs.YtmoeoomlggjaaaaGreatDoor
open Go.RowKit Go.Maps

/-- 'append' at a step of a region that draws its order: onto a slice of the call's own, any source -/
theorem step_append_any {P : Program} {ops : Array Oper} {o : Oper} {a : Act} {w : World} {K : Act → World → Prop} {Q : Exit → Act → World → Prop} {E : Prop} (hgd : o.guard = none) (s x : Operand) (t : TypeId)
    (ho : o.op = .call { callee := .builtin .append, args := #[s, x], argTypes := #[t, t] })
    (base : Nat) (e : TypeId) (i : TypeInfo) (z : Value) (size bytes : Nat) (ht : P.underlying t = some (.slice e)) (hi : P.info? e = some i) (hz : i.zero = some z)
    (hsize : i.size = size) (hby : i.bytes = bytes) (hzs : z.cells.size = size) (hsz : 0 < size)
    (v : Value) (n : Nat) (xs : List Value) (hs : a.eval s = v) (hown : w.ownsRow base e size v n xs)
    (A : Option Addr) (m c : Nat) (news : List Value) (hx : a.eval x = .slice A m c) (hl : news.length = m * size) (hnews : ∀ ad, A = some ad → ∀ j u, news[j]? = some u → w.cell? (ad.add j) = some u) (hA : A = none → m = 0 ∧ c = 0) (h1 : ∀ u ∈ news, u.oneCell' = true)
    (h63 : n + m ≤ maxLen) (hbytes : (n + m) * bytes ≤ 140737488355328) (hbase : base ≤ w.heap.size)
    (h : ∀ v' w', w'.ownsRow base e size v' (n + m) (xs ++ news) → w.grownBy w' v.ownBlock → K (a.put o.dst v') w') :
    if Region.wanted o (yielded ops a.tmps) = true then Oper.wp P o a w K Q else E := by
  have hw : Region.wanted o (yielded ops a.tmps) = true := by simp [Region.wanted, hgd]
  rw [if_pos hw]
  cases A with
  | some ad => exact wp_append_own w s x t ho base e i z size bytes ht hi hz hsize hby hzs hsz v n xs hs hown ad m c news hx hl (hnews ad rfl) h1 h63 hbytes hbase fun v' w' h2 h3 _ => h v' w' h2 h3
  | none =>
    obtain ⟨rfl, rfl⟩ := hA rfl
    have hrun := run_append_owned_none (P := P) (w := w) base t o.type e i size ht hi v n xs hown
    obtain rfl : news = [] := List.eq_nil_of_length_eq_zero (by simpa using hl)
    unfold Oper.wp
    simp [execOp, ho, resolve, invoke, builtin, hs, hx, hrun, Result.andThen]
    exact h _ _ (by simpa using hown) ⟨rfl, rfl, rfl, Nat.le_refl _, fun _ _ _ => rfl⟩

theorem inputs_fit (l : List It) (A : Option Addr) (cp : Nat) (E : Nat → Addr) (m : Int) (w : World) (hl : RowAt itL 3 w w.heap.size A l) (hI : ∀ x ∈ l, InI x) (hE : Env LA E w) (hm : w.cell? ⟨4, 0, none⟩ = some (.int .i64 m)) (hA : A = none → cp = 0) (hf : faultI l = none) :
    Calls Tryz.prog 8 #[.slice A l.length cp] w fun e w' => (∃ A1 c1 rs, e = .returned (.tuple #[.slice A1 rs.length c1, .nilIface]) ∧ RowAt itL 3 w' w'.heap.size A1 rs ∧ (A1 = none → c1 = 0) ∧ CanonI (inF l) rs ∧ rs.length = l.length) ∧ Below w.heap.size w w' := by
  refine (inputs_good l A cp E m w hl hI hE hm hA hf).mono ?_
  rintro e w1 ⟨⟨A1, c1, rs, rfl, hr, hc, hn, hown⟩, hb1⟩
  obtain ⟨A2, c2, e2, _, hn2, _⟩ := own_line (fun x _ => itL_len x) hown
  cases e2
  exact ⟨⟨A1, c1, rs, rfl, hr, hn2, hc, hn⟩, hb1⟩
theorem diff_fit (l1 l2 : List It) (s1 s2 : St) (A1 A2 : Option Addr) (cp1 cp2 : Nat) (E : Nat → Addr) (m : Int) (w : World) (hl1 : RowAt itL 3 w w.heap.size A1 l1) (hl2 : RowAt itL 3 w w.heap.size A2 l2) (h1 : CanonI s1 l1) (h2 : CanonI s2 l2) (o1 : okS s1) (o2 : okS s2) (hE : Env LA E w) (hm : w.cell? ⟨4, 0, none⟩ = some (.int .i64 m)) (hA1 : A1 = none → cp1 = 0) (hA2 : A2 = none → cp2 = 0) (h5 : l1.length + l2.length ≤ 500) :
    Calls Tryz.prog 10 #[.slice A1 l1.length cp1, .slice A2 l2.length cp2] w fun e w' => (∃ a M N, e = .returned (.tuple #[.pointer (some ⟨a, 0, none⟩), .nilIface]) ∧ AmAt w' a M (diffA s1 s2) N ∧ N ≤ 500) ∧ Below w.heap.size w w' := by
  refine (diff_any l1 l2 A1 A2 cp1 cp2 E m w hl1 hl2 (h1.inI o1) (h2.inI o2) hE hm hA1 hA2 (h1.fault o1 (by omega)) (h2.fault o2 (by omega)) h5).mono ?_
  rintro e w1 ⟨⟨a, M, N, rfl, ha, hn, _, _⟩, hb1⟩
  rw [h1.inF, h2.inF] at ha
  exact ⟨⟨a, M, N, rfl, ha, hn⟩, hb1⟩
theorem apply_in (a M N : Nat) (g : Am) (l : List It) (s0 : St) (A : Option Addr) (cp : Nat) (E : Nat → Addr) (m : Int) (w : World) (h : AmAt w a M g N) (hN : N ≤ 50000) (hl : RowAt itL 3 w w.heap.size A l) (hc : CanonI s0 l) (o0 : okS s0) (h0 : l.length ≤ 500) (hE : Env LA E w) (hm : w.cell? ⟨4, 0, none⟩ = some (.int .i64 m)) (hA : A = none → cp = 0) (hok : okA g)
    (s : St) (hs : app s0 g = s) (L : List (List UInt8)) (hL : ∀ y, (s y).isSome = true → y ∈ L) (h5 : L.length ≤ 500) :
    Calls Tryz.prog 11 #[.pointer (some ⟨a, 0, none⟩), .slice A l.length cp] w fun e w' => (∃ A1 c1 rs, e = .returned (.tuple #[.slice A1 rs.length c1, .nilIface]) ∧ RowAt itL 3 w' w'.heap.size A1 rs ∧ (A1 = none → c1 = 0) ∧ CanonI s rs ∧ rs.length ≤ L.length) ∧ Below w.heap.size w w' :=
  apply_fit a M N g l A cp E m w h hN hl (hc.inI o0) hE hm hA hok (hc.fault o0 h0) s (by rw [hc.inF]; exact hs) L hL h5

set_option maxRecDepth 100000 in
set_option maxHeartbeats 32000000 in
theorem least_any (x y : List It) (l : List Ch) (A0 A1 A2 : Option Addr) (c0 c1 c2 : Nat) (E : Nat → Addr) (m : Int) (w : World) (hx : RowAt itL 3 w w.heap.size A0 x) (hy : RowAt itL 3 w w.heap.size A1 y) (hl : RowAt chL 4 w w.heap.size A2 l) (hix : ∀ c ∈ x, InI c) (hiy : ∀ c ∈ y, InI c) (hil : ∀ c ∈ l, InC c) (hE : Env LA E w) (hm : w.cell? ⟨4, 0, none⟩ = some (.int .i64 m)) :
    Calls Tryz.prog 3 #[.slice A0 x.length c0, .slice A1 y.length c1, .slice A2 l.length c2] w fun e w' => e = .returned (.bool true) ∧ Below w.heap.size w w' := by
  obtain ⟨inf0, hi, jz0, jz1, jz2⟩ := info_parts infoCh
  have HE := Lib.hid hE
  have HM := Lib.hid hm
  have RX := Lib.hid hx
  have RY := Lib.hid hy
  have RL := Lib.hid hl
  have IX := Lib.hid hix
  have IY := Lib.hid hiy
  have IL := Lib.hid hil
  clear hE hm hx hy hl hix hiy hil
  have HFI := Lib.hid (first25_any E m w HE.out HM.out)
  by_cases hx : (200 : Int) < (x.length : Int)
  · go_enter Tryz.func3, Tryz.ntmps3
    go_wp2_with fail
    refine HFI.out.mono ?_
    rintro e w1 ⟨rfl, hb1⟩
    go_wp2_with fail
    go_ret
    exact ⟨rfl, hb1⟩
  by_cases hy : (200 : Int) < (y.length : Int)
  · go_enter Tryz.func3, Tryz.ntmps3
    go_wp2_with fail
    refine HFI.out.mono ?_
    rintro e w1 ⟨rfl, hb1⟩
    go_wp2_with fail
    go_ret
    exact ⟨rfl, hb1⟩
  by_cases hl : (100 : Int) < (l.length : Int)
  · go_enter Tryz.func3, Tryz.ntmps3
    go_wp2_with fail
    refine HFI.out.mono ?_
    rintro e w1 ⟨rfl, hb1⟩
    go_wp2_with fail
    go_ret
    exact ⟨rfl, hb1⟩
  have lx : x.length ≤ 200 := by omega
  have ly : y.length ≤ 200 := by omega
  have ll : l.length ≤ 100 := by omega
  go_enter Tryz.func3, Tryz.ntmps3
  go_wp2_with fail
  refine (HFI.out).mono ?_
  rintro e w1 ⟨rfl, hb1⟩
  replace hb1 : Below w.heap.size w w1 := stepH (by (repeat' (first | with_reducible exact Below.refl _ _ | with_reducible assumption | with_reducible refine Below.drew ?_ | with_reducible refine below_drewN ?_ _ | with_reducible refine Below.setCell ?_ ?_ _ | with_reducible refine Below.alloc ?_ ?_ _ | omega | (simp; done) | (simp; omega)))) hb1
  have hw1 : Below w.heap.size w w1 := stepH (Below.refl _ _) hb1
  have RX := Lib.hid (row_step RX.out hb1)
  have RY := Lib.hid (row_step RY.out hb1)
  have RL := Lib.hid (row_step RL.out hb1)
  have z1 := hw1.size
  clear hb1
  clear HFI
  go_wp2_with fail
  refine (copyI_fit x A0 c0 _ RX.out (by omega)).mono ?_
  rintro e w2 ⟨⟨B0, d0, rfl, hr, hn⟩, hb2⟩
  replace hb2 : Below w1.heap.size w1 w2 := stepH (by (repeat' (first | with_reducible exact Below.refl _ _ | with_reducible assumption | with_reducible refine Below.drew ?_ | with_reducible refine below_drewN ?_ _ | with_reducible refine Below.setCell ?_ ?_ _ | with_reducible refine Below.alloc ?_ ?_ _ | omega | (simp; done) | (simp; omega)))) hb2
  have hw2 : Below w.heap.size w w2 := stepH hw1 hb2
  have RX := Lib.hid (row_step RX.out hb2)
  have RY := Lib.hid (row_step RY.out hb2)
  have RL := Lib.hid (row_step RL.out hb2)
  have z2 := hw2.size
  clear hb2
  have NX := Lib.hid hn
  clear hn
  have RXC := Lib.hid hr
  clear hr
  cases hfx : faultI x with
  | some gx =>
    have hne := fun W => eql_nil (E gx) W
    go_wp2_with fail
    refine (inputs_any x B0 d0 E m _ RXC.out IX.out (HE.out.below hw2) (cell_at HM.out hw2) NX.out).mono ?_
    rintro e w3 ⟨⟨h1⟩, hb3⟩
    replace hb3 : Below w2.heap.size w2 w3 := stepH (by (repeat' (first | with_reducible exact Below.refl _ _ | with_reducible assumption | with_reducible refine Below.drew ?_ | with_reducible refine below_drewN ?_ _ | with_reducible refine Below.setCell ?_ ?_ _ | with_reducible refine Below.alloc ?_ ?_ _ | omega | (simp; done) | (simp; omega)))) hb3
    have hw3 : Below w.heap.size w w3 := stepH hw2 hb3
    have RX := Lib.hid (row_step RX.out hb3)
    have RY := Lib.hid (row_step RY.out hb3)
    have RL := Lib.hid (row_step RL.out hb3)
    have RXC := Lib.hid (row_step RXC.out hb3)
    have z3 := hw3.size
    clear hb3
    rcases h1 with ⟨gy, hgy, _, rfl⟩ | ⟨hgy, _⟩
    case inr => rw [hfx] at hgy; cases hgy
    rw [hfx] at hgy
    injection hgy with hgy
    subst hgy
    clear hfx
    rw [show errA E (some gx) = .iface 184 (.pointer (some (E gx))) from rfl]
    go_wp2_with fail
    refine (copyI_fit y A1 c1 _ RY.out (by omega)).mono ?_
    rintro e w4 ⟨⟨B1, d1, rfl, hr, hn⟩, hb4⟩
    replace hb4 : Below w3.heap.size w3 w4 := stepH (by (repeat' (first | with_reducible exact Below.refl _ _ | with_reducible assumption | with_reducible refine Below.drew ?_ | with_reducible refine below_drewN ?_ _ | with_reducible refine Below.setCell ?_ ?_ _ | with_reducible refine Below.alloc ?_ ?_ _ | omega | (simp; done) | (simp; omega)))) hb4
    have hw4 : Below w.heap.size w w4 := stepH hw3 hb4
    have RX := Lib.hid (row_step RX.out hb4)
    have RY := Lib.hid (row_step RY.out hb4)
    have RL := Lib.hid (row_step RL.out hb4)
    have RXC := Lib.hid (row_step RXC.out hb4)
    have z4 := hw4.size
    clear hb4
    have NY := Lib.hid hn
    clear hn
    have RYC := Lib.hid hr
    clear hr
    go_wp2_with fail
    refine (inputs_any y B1 d1 E m _ RYC.out IY.out (HE.out.below hw4) (cell_at HM.out hw4) NY.out).mono ?_
    rintro e w5 ⟨⟨h1⟩, hb5⟩
    replace hb5 : Below w4.heap.size w4 w5 := stepH (by (repeat' (first | with_reducible exact Below.refl _ _ | with_reducible assumption | with_reducible refine Below.drew ?_ | with_reducible refine below_drewN ?_ _ | with_reducible refine Below.setCell ?_ ?_ _ | with_reducible refine Below.alloc ?_ ?_ _ | omega | (simp; done) | (simp; omega)))) hb5
    have hw5 : Below w.heap.size w w5 := stepH hw4 hb5
    have RX := Lib.hid (row_step RX.out hb5)
    have RY := Lib.hid (row_step RY.out hb5)
    have RL := Lib.hid (row_step RL.out hb5)
    have RXC := Lib.hid (row_step RXC.out hb5)
    have RYC := Lib.hid (row_step RYC.out hb5)
    have z5 := hw5.size
    clear hb5
    rcases h1 with ⟨gy, _, _, rfl⟩ | ⟨_, v, rs, rfl, _⟩
    · rw [show errA E (some gy) = .iface 184 (.pointer (some (E gy))) from rfl]
      go_wp2_with fail
      go_ret
      exact ⟨rfl, hw5⟩
    · go_wp2_with fail
      go_ret
      exact ⟨rfl, hw5⟩
  | none =>
    have FX := Lib.hid hfx
    clear hfx
    go_wp2_with fail
    refine (inputs_fit x B0 d0 E m _ RXC.out IX.out (HE.out.below hw2) (cell_at HM.out hw2) NX.out FX.out).mono ?_
    rintro e w3 ⟨⟨U, cu, ul, rfl, hr, hn, hc, hk⟩, hb3⟩
    replace hb3 : Below w2.heap.size w2 w3 := stepH (by (repeat' (first | with_reducible exact Below.refl _ _ | with_reducible assumption | with_reducible refine Below.drew ?_ | with_reducible refine below_drewN ?_ _ | with_reducible refine Below.setCell ?_ ?_ _ | with_reducible refine Below.alloc ?_ ?_ _ | omega | (simp; done) | (simp; omega)))) hb3
    have hw3 : Below w.heap.size w w3 := stepH hw2 hb3
    have RX := Lib.hid (row_step RX.out hb3)
    have RY := Lib.hid (row_step RY.out hb3)
    have RL := Lib.hid (row_step RL.out hb3)
    have RXC := Lib.hid (row_step RXC.out hb3)
    have z3 := hw3.size
    clear hb3
    clear RXC
    have NU := Lib.hid hn
    have CU := Lib.hid hc
    have lu : ul.length ≤ 200 := by omega
    clear hn hc hk
    have RU := Lib.hid hr
    clear hr
    go_wp2_with fail
    refine (copyI_fit y A1 c1 _ RY.out (by omega)).mono ?_
    rintro e w4 ⟨⟨B1, d1, rfl, hr, hn⟩, hb4⟩
    replace hb4 : Below w3.heap.size w3 w4 := stepH (by (repeat' (first | with_reducible exact Below.refl _ _ | with_reducible assumption | with_reducible refine Below.drew ?_ | with_reducible refine below_drewN ?_ _ | with_reducible refine Below.setCell ?_ ?_ _ | with_reducible refine Below.alloc ?_ ?_ _ | omega | (simp; done) | (simp; omega)))) hb4
    have hw4 : Below w.heap.size w w4 := stepH hw3 hb4
    have RX := Lib.hid (row_step RX.out hb4)
    have RY := Lib.hid (row_step RY.out hb4)
    have RL := Lib.hid (row_step RL.out hb4)
    have RU := Lib.hid (row_step RU.out hb4)
    have z4 := hw4.size
    clear hb4
    have NY := Lib.hid hn
    clear hn
    have RYC := Lib.hid hr
    clear hr
    cases hfy : faultI y with
    | some gy =>
      have hne := fun W => eql_nil (E gy) W
      go_wp2_with fail
      refine (inputs_any y B1 d1 E m _ RYC.out IY.out (HE.out.below hw4) (cell_at HM.out hw4) NY.out).mono ?_
      rintro e w5 ⟨⟨h1⟩, hb5⟩
      replace hb5 : Below w4.heap.size w4 w5 := stepH (by (repeat' (first | with_reducible exact Below.refl _ _ | with_reducible assumption | with_reducible refine Below.drew ?_ | with_reducible refine below_drewN ?_ _ | with_reducible refine Below.setCell ?_ ?_ _ | with_reducible refine Below.alloc ?_ ?_ _ | omega | (simp; done) | (simp; omega)))) hb5
      have hw5 : Below w.heap.size w w5 := stepH hw4 hb5
      have RX := Lib.hid (row_step RX.out hb5)
      have RY := Lib.hid (row_step RY.out hb5)
      have RL := Lib.hid (row_step RL.out hb5)
      have RU := Lib.hid (row_step RU.out hb5)
      have RYC := Lib.hid (row_step RYC.out hb5)
      have z5 := hw5.size
      clear hb5
      rcases h1 with ⟨gz, hgy, _, rfl⟩ | ⟨hgy, _⟩
      case inr => rw [hfy] at hgy; cases hgy
      rw [hfy] at hgy
      injection hgy with hgy
      subst hgy
      clear hfy
      rw [show errA E (some gy) = .iface 184 (.pointer (some (E gy))) from rfl]
      go_wp2_with fail
      go_ret
      exact ⟨rfl, hw5⟩
    | none =>
      have FY := Lib.hid hfy
      clear hfy
      go_wp2_with fail
      refine (inputs_fit y B1 d1 E m _ RYC.out IY.out (HE.out.below hw4) (cell_at HM.out hw4) NY.out FY.out).mono ?_
      rintro e w5 ⟨⟨V, cv, vl, rfl, hr, hn, hc, hk⟩, hb5⟩
      replace hb5 : Below w4.heap.size w4 w5 := stepH (by (repeat' (first | with_reducible exact Below.refl _ _ | with_reducible assumption | with_reducible refine Below.drew ?_ | with_reducible refine below_drewN ?_ _ | with_reducible refine Below.setCell ?_ ?_ _ | with_reducible refine Below.alloc ?_ ?_ _ | omega | (simp; done) | (simp; omega)))) hb5
      have hw5 : Below w.heap.size w w5 := stepH hw4 hb5
      have RX := Lib.hid (row_step RX.out hb5)
      have RY := Lib.hid (row_step RY.out hb5)
      have RL := Lib.hid (row_step RL.out hb5)
      have RU := Lib.hid (row_step RU.out hb5)
      have RYC := Lib.hid (row_step RYC.out hb5)
      have z5 := hw5.size
      clear hb5
      clear RYC
      have NV := Lib.hid hn
      have CV := Lib.hid hc
      have lv : vl.length ≤ 200 := by omega
      clear hn hc hk
      obtain ⟨u, hu⟩ : ∃ u, inF x = u := ⟨_, rfl⟩
      obtain ⟨v, hv⟩ : ∃ v, inF y = v := ⟨_, rfl⟩
      have OU : Hid (okS u) := Lib.hid (hu ▸ okS_in FX.out)
      have OV : Hid (okS v) := Lib.hid (hv ▸ okS_in FY.out)
      rw [hu] at CU
      rw [hv] at CV
      clear hu hv FX FY RX RY IX IY
      have RV := Lib.hid hr
      clear hr
      have SU : Hid (∀ y, (u y).isSome = true → y ∈ ul.map itb) := Lib.hid (fun y h => (CU.out.keys.mem y).2 h)
      have SV : Hid (∀ y, (v y).isSome = true → y ∈ vl.map itb) := Lib.hid (fun y h => (CV.out.keys.mem y).2 h)
      go_wp2_with fail
      refine (diff_fit ul vl u v U V cu cv E m _ RU.out RV.out CU.out CV.out OU.out OV.out (HE.out.below hw5) (cell_at HM.out hw5) NU.out NV.out (by omega)).mono ?_
      rintro e w6 ⟨⟨d, Md, Nd, rfl, hd, hnd⟩, hb6⟩
      replace hb6 : Below w5.heap.size w5 w6 := stepH (by (repeat' (first | with_reducible exact Below.refl _ _ | with_reducible assumption | with_reducible refine Below.drew ?_ | with_reducible refine below_drewN ?_ _ | with_reducible refine Below.setCell ?_ ?_ _ | with_reducible refine Below.alloc ?_ ?_ _ | omega | (simp; done) | (simp; omega)))) hb6
      have hw6 : Below w.heap.size w w6 := stepH hw5 hb6
      have RL := Lib.hid (row_step RL.out hb6)
      have RU := Lib.hid (row_step RU.out hb6)
      have RV := Lib.hid (row_step RV.out hb6)
      have z6 := hw6.size
      clear hb6
      obtain ⟨cs, hcs, hcl⟩ := am_canon hd
      have CD := Lib.hid hcs
      clear hcs
      have AD := Lib.hid hd
      clear hd
      go_wp2_with fail
      refine (diff_fit vl ul v u V U cv cu E m _ RV.out RU.out CV.out CU.out OV.out OU.out (HE.out.below hw6) (cell_at HM.out hw6) NV.out NU.out (by omega)).mono ?_
      rintro e w7 ⟨⟨r, Mr, Nr, rfl, hr, hnr⟩, hb7⟩
      replace hb7 : Below w6.heap.size w6 w7 := stepH (by (repeat' (first | with_reducible exact Below.refl _ _ | with_reducible assumption | with_reducible refine Below.drew ?_ | with_reducible refine below_drewN ?_ _ | with_reducible refine Below.setCell ?_ ?_ _ | with_reducible refine Below.alloc ?_ ?_ _ | omega | (simp; done) | (simp; omega)))) hb7
      have hw7 : Below w.heap.size w w7 := stepH hw6 hb7
      have RL := Lib.hid (row_step RL.out hb7)
      have RU := Lib.hid (row_step RU.out hb7)
      have RV := Lib.hid (row_step RV.out hb7)
      have AD := Lib.hid (AD.out.step hb7)
      have z7 := hw7.size
      clear hb7
      obtain ⟨os, hcs, hol⟩ := am_canon hr
      have CR := Lib.hid hcs
      clear hcs
      have AR := Lib.hid hr
      clear hr
      have HNM := Lib.hid (diff_names CD.out CR.out)
      obtain rfl : Nd = Nr := by have := congrArg List.length HNM.out; rw [List.length_map, List.length_map] at this; omega
      have OD := Lib.hid (diff_ok OU.out OV.out)
      obtain ⟨bz, hz1⟩ : ∃ b, ((Nd : Int) == 0) = b := ⟨_, rfl⟩
      have hz2 : decide ((Nd : Int) = 0) = bz := by rw [← hz1]; rfl
      have HBZ : Hid (bz = true ↔ ul = vl) := Lib.hid (by
        rw [canonI_eq CU.out CV.out, ← diff_nil CD.out, hcl, ← hz1]
        simp)
      go_wp2_with fail
      refine (apply_in d Md Nd (diffA u v) ul u U cu E m _ AD.out (by omega) RU.out CU.out OU.out (by omega) (HE.out.below hw7) (cell_at HM.out hw7) NU.out OD.out v (app_diff u v) _ SV.out (by rw [List.length_map]; omega)).mono ?_
      rintro e w8 ⟨⟨W, cw, rs, rfl, hr, _, hc, hk⟩, hb8⟩
      replace hb8 : Below w7.heap.size w7 w8 := stepH (by (repeat' (first | with_reducible exact Below.refl _ _ | with_reducible assumption | with_reducible refine Below.drew ?_ | with_reducible refine below_drewN ?_ _ | with_reducible refine Below.setCell ?_ ?_ _ | with_reducible refine Below.alloc ?_ ?_ _ | omega | (simp; done) | (simp; omega)))) hb8
      have hw8 : Below w.heap.size w w8 := stepH hw7 hb8
      have RL := Lib.hid (row_step RL.out hb8)
      have RU := Lib.hid (row_step RU.out hb8)
      have RV := Lib.hid (row_step RV.out hb8)
      have AD := Lib.hid (AD.out.step hb8)
      have AR := Lib.hid (AR.out.step hb8)
      have z8 := hw8.size
      clear hb8
      obtain rfl := hc.unique CV.out
      clear hc hk
      have RW := Lib.hid hr
      clear hr
      go_wp2_with fail
      refine (sameIs_fit rs W V cw cv _ RW.out RV.out (by omega)).mono ?_
      rintro e w9 ⟨rfl, hb9⟩
      replace hb9 : Below w8.heap.size w8 w9 := stepH (by (repeat' (first | with_reducible exact Below.refl _ _ | with_reducible assumption | with_reducible refine Below.drew ?_ | with_reducible refine below_drewN ?_ _ | with_reducible refine Below.setCell ?_ ?_ _ | with_reducible refine Below.alloc ?_ ?_ _ | omega | (simp; done) | (simp; omega)))) hb9
      have hw9 : Below w.heap.size w w9 := stepH hw8 hb9
      have RL := Lib.hid (row_step RL.out hb9)
      have RU := Lib.hid (row_step RU.out hb9)
      have RV := Lib.hid (row_step RV.out hb9)
      have AD := Lib.hid (AD.out.step hb9)
      have AR := Lib.hid (AR.out.step hb9)
      have RW := Lib.hid (row_step RW.out hb9)
      have z9 := hw9.size
      clear hb9
      clear RW
      go_wp2_with fail
      refine (len_any d Md Nd _ _ AD.out).mono ?_
      rintro e w10 ⟨rfl, hb10⟩
      replace hb10 : Below w9.heap.size w9 w10 := stepH (by (repeat' (first | with_reducible exact Below.refl _ _ | with_reducible assumption | with_reducible refine Below.drew ?_ | with_reducible refine below_drewN ?_ _ | with_reducible refine Below.setCell ?_ ?_ _ | with_reducible refine Below.alloc ?_ ?_ _ | omega | (simp; done) | (simp; omega)))) hb10
      have hw10 : Below w.heap.size w w10 := stepH hw9 hb10
      have RL := Lib.hid (row_step RL.out hb10)
      have RU := Lib.hid (row_step RU.out hb10)
      have RV := Lib.hid (row_step RV.out hb10)
      have AD := Lib.hid (AD.out.step hb10)
      have AR := Lib.hid (AR.out.step hb10)
      have z10 := hw10.size
      clear hb10
      go_wp2_with fail
      refine (sameIs_any ul rs U V cu cv _ RU.out RV.out (by omega)).mono ?_
      rintro e w11 ⟨⟨bq, rfl, hbq⟩, hb11⟩
      replace hb11 : Below w10.heap.size w10 w11 := stepH (by (repeat' (first | with_reducible exact Below.refl _ _ | with_reducible assumption | with_reducible refine Below.drew ?_ | with_reducible refine below_drewN ?_ _ | with_reducible refine Below.setCell ?_ ?_ _ | with_reducible refine Below.alloc ?_ ?_ _ | omega | (simp; done) | (simp; omega)))) hb11
      have hw11 : Below w.heap.size w w11 := stepH hw10 hb11
      have RL := Lib.hid (row_step RL.out hb11)
      have RU := Lib.hid (row_step RU.out hb11)
      have RV := Lib.hid (row_step RV.out hb11)
      have AD := Lib.hid (AD.out.step hb11)
      have AR := Lib.hid (AR.out.step hb11)
      have z11 := hw11.size
      clear hb11
      obtain rfl : bq = bz := by rw [Bool.eq_iff_iff, hbq, HBZ.out]
      clear hbq
      go_wp2_with fail
      refine (len_any d Md Nd _ _ AD.out).mono ?_
      rintro e w12 ⟨rfl, hb12⟩
      replace hb12 : Below w11.heap.size w11 w12 := stepH (by (repeat' (first | with_reducible exact Below.refl _ _ | with_reducible assumption | with_reducible refine Below.drew ?_ | with_reducible refine below_drewN ?_ _ | with_reducible refine Below.setCell ?_ ?_ _ | with_reducible refine Below.alloc ?_ ?_ _ | omega | (simp; done) | (simp; omega)))) hb12
      have hw12 : Below w.heap.size w w12 := stepH hw11 hb12
      have RL := Lib.hid (row_step RL.out hb12)
      have RU := Lib.hid (row_step RU.out hb12)
      have RV := Lib.hid (row_step RV.out hb12)
      have AD := Lib.hid (AD.out.step hb12)
      have AR := Lib.hid (AR.out.step hb12)
      have z12 := hw12.size
      clear hb12
      go_wp2_with fail
      refine (len_any r Mr Nd _ _ AR.out).mono ?_
      rintro e w13 ⟨rfl, hb13⟩
      replace hb13 : Below w12.heap.size w12 w13 := stepH (by (repeat' (first | with_reducible exact Below.refl _ _ | with_reducible assumption | with_reducible refine Below.drew ?_ | with_reducible refine below_drewN ?_ _ | with_reducible refine Below.setCell ?_ ?_ _ | with_reducible refine Below.alloc ?_ ?_ _ | omega | (simp; done) | (simp; omega)))) hb13
      have hw13 : Below w.heap.size w w13 := stepH hw12 hb13
      have RL := Lib.hid (row_step RL.out hb13)
      have RU := Lib.hid (row_step RU.out hb13)
      have RV := Lib.hid (row_step RV.out hb13)
      have AD := Lib.hid (AD.out.step hb13)
      have AR := Lib.hid (AR.out.step hb13)
      have z13 := hw13.size
      clear hb13
      go_wp2_with fail
      refine (changes_any d Md Nd _ _ AD.out (by omega)).mono ?_
      rintro e w14 ⟨⟨v1, k1, rfl, hv1, hc, hk⟩, hb14⟩
      replace hb14 : Below w13.heap.size w13 w14 := stepH (by (repeat' (first | with_reducible exact Below.refl _ _ | with_reducible assumption | with_reducible refine Below.drew ?_ | with_reducible refine below_drewN ?_ _ | with_reducible refine Below.setCell ?_ ?_ _ | with_reducible refine Below.alloc ?_ ?_ _ | omega | (simp; done) | (simp; omega)))) hb14
      have hw14 : Below w.heap.size w w14 := stepH hw13 hb14
      have RL := Lib.hid (row_step RL.out hb14)
      have RU := Lib.hid (row_step RU.out hb14)
      have RV := Lib.hid (row_step RV.out hb14)
      have AD := Lib.hid (AD.out.step hb14)
      have AR := Lib.hid (AR.out.step hb14)
      have z14 := hw14.size
      clear hb14
      obtain rfl := hc.unique CD.out
      obtain ⟨AC, cc, rfl, hcc1, hcc2, hr⟩ := Own.rows (fun x _ => chL_len x) hv1
      clear hv1 hc hk hz1 hz2 HBZ
      have RC := Lib.hid hr
      clear hr
      clear AD
      go_wp2_with fail
      refine (changes_any r Mr Nd _ _ AR.out (by omega)).mono ?_
      rintro e w15 ⟨⟨v2, k2, rfl, hv2, hc, hk⟩, hb15⟩
      replace hb15 : Below w14.heap.size w14 w15 := stepH (by (repeat' (first | with_reducible exact Below.refl _ _ | with_reducible assumption | with_reducible refine Below.drew ?_ | with_reducible refine below_drewN ?_ _ | with_reducible refine Below.setCell ?_ ?_ _ | with_reducible refine Below.alloc ?_ ?_ _ | omega | (simp; done) | (simp; omega)))) hb15
      have hw15 : Below w.heap.size w w15 := stepH hw14 hb15
      have RL := Lib.hid (row_step RL.out hb15)
      have RU := Lib.hid (row_step RU.out hb15)
      have RV := Lib.hid (row_step RV.out hb15)
      have AR := Lib.hid (AR.out.step hb15)
      have RC := Lib.hid (row_step RC.out hb15)
      have z15 := hw15.size
      clear hb15
      obtain rfl := hc.unique CR.out
      obtain ⟨AO, co, rfl, _, _, hr⟩ := Own.rows (fun x _ => chL_len x) hv2
      clear hv2 hc hk
      have RO := Lib.hid hr
      clear hr
      clear AR
      go_wp2_with fail
      go_loopw [20] (fun i wr => ∃ k : Nat, k ≤ k1.length ∧ i = .int .i64 k ∧ Below w15.heap.size w15 wr) (fun i _ => k1.length - (intOf i).toNat)
      case atStart => exact ⟨0, Nat.zero_le _, rfl, Below.refl _ _⟩
      case round =>
        obtain ⟨k, hk, rfl, hwq⟩ := hrel
        have hwr := stepH hw15 hwq
        have zr := hwr.size
        have RL := Lib.hid (row_step RL.out hwq)
        have RU := Lib.hid (row_step RU.out hwq)
        have RV := Lib.hid (row_step RV.out hwq)
        have RC := Lib.hid (row_step RC.out hwq)
        have RO := Lib.hid (row_step RO.out hwq)
        have HBW := Lib.hid hwq
        by_cases hlt : k < k1.length
        ·
          obtain ⟨c, hc⟩ : ∃ x, k1[k]? = some x := ⟨k1[k], List.getElem?_eq_getElem hlt⟩
          have hlo : k < k2.length := by omega
          obtain ⟨o, ho⟩ : ∃ x, k2[k]? = some x := ⟨k2[k], List.getElem?_eq_getElem hlo⟩
          have hno : o.name = c.name := by
            have h1 : (k1.map nmb)[k]? = (k2.map nmb)[k]? := by rw [HNM.out]
            rw [List.getElem?_map, List.getElem?_map, hc, ho] at h1
            injection h1 with h1
            exact (ba_inj h1).symm
          have HX := Lib.hid hc
          have hlt2 : (k : Int) < (k1.length : Int) := by omega
          have hlt3 : (k : Int) < (k2.length : Int) := by omega
          have hacn : AC = none → False := fun e => by
            obtain ⟨_, _, e2, _⟩ := cellsC RC.out hc
            rw [e] at e2
            cases e2
          have hdr := RC.out.drop (k + 1) cc hcc1
          obtain ⟨AK, hAK⟩ : ∃ a, (if cc = k + 1 then AC else AC.map (·.add ((k + 1) * 4))) = a := ⟨_, rfl⟩
          rw [hAK] at hdr
          have hAN : Hid (AK = none → Nd - (k + 1) = 0 ∧ cc - (k + 1) = 0) := Lib.hid (fun e => by
            rw [e] at hAK
            cases hq : AC with
            | none => exact (hacn hq).elim
            | some q => rw [hq] at hAK; split at hAK <;> simp at hAK)
          obtain ⟨lt, hlt9⟩ : ∃ x, k1.take k = x := ⟨_, rfl⟩
          obtain ⟨ld, hld9⟩ : ∃ x, k1.drop (k + 1) = x := ⟨_, rfl⟩
          obtain ⟨lr, hlr9⟩ : ∃ x, rest k1 k = x := ⟨_, rfl⟩
          have hlk : lt.length = k := by rw [← hlt9, List.length_take]; omega
          have hlj : ld.length = k1.length - (k + 1) := by rw [← hld9, List.length_drop]
          have HLR : Hid (lr.length = k + (Nd - (k + 1))) := Lib.hid (by rw [← hlr9, rest_len hlt, hcl])
          have HFR : Hid (lr.flatMap chL = lt.flatMap chL ++ ld.flatMap chL) := Lib.hid (by rw [← hlr9, ← hlt9, ← hld9]; unfold rest; rw [List.flatMap_append])
          have HREQ := Lib.hid hlr9
          have RT := Lib.hid (RC.out.take k)
          rw [hlt9] at RT
          rw [hld9] at hdr
          have HCP := Lib.hid (copyC_any lt AC cc wr.drew (row_step RT.out ((Below.refl _ _).drew)) (by omega))
          rw [hlk] at HCP
          have hbd : Below wr.heap.size wr wr.drew := (Below.refl _ _).drew
          have RD := Lib.hid hdr
          have hlen9 : (ld.flatMap chL).length = (Nd - (k + 1)) * 4 := by rw [flat_len (fun x _ => chL_len x), hlj, hcl]
          have HN9 := Lib.hid hlen9
          have H19 := Lib.hid (chL_one ld)
          have HF9 := Lib.hid (fun (W : World) (h : Below wr.heap.size wr W) => rowFlat (size := 4) chL_len (by decide) (RD.out.below h (Nat.le_refl _)))
          have HNO := Lib.hid hno
          have HO := Lib.hid ho
          have HLK := Lib.hid hlk
          clear hc ho hno hdr hlen9 hacn hlt9 hld9 hlr9 hlj hlk RT
          have f1 : (0 : Int) ≤ (k : Int) := by omega
          have f2 : ((k : Nat) : Int) ≤ (cc : Int) := by omega
          have f3 : (0 : Int) ≤ (k : Int) + 1 := by omega
          have f4 : (k : Int) + 1 ≤ (Nd : Int) := by omega
          have f5 : ((k : Int) + 1).toNat = k + 1 := by omega
          have f6 : IntKind.i64.wrap ((k : Int) + 1) = (k : Int) + 1 := by rw [IntKind.wrap_i64]; omega
          have f7 : (Nd : Int) ≤ (cc : Int) := by omega
          go_wp2_with fail
          go_region_held_law (fun _ => True) (exact trivial)
            (first
              | (go_at_call 15; refine HCP.out.mono ?_; rintro e w5 ⟨⟨v5, rfl, hown5⟩, hb5⟩; have hw5 : Below wr.heap.size wr w5 := stepH hbd hb5; have z5 := hw5.size; have HO5 : Hid (w5.ownsRow wr.heap.size 41 4 v5 k (lt.flatMap chL)) := Lib.hid (by have h9 := own_mono hown5 (show wr.heap.size ≤ wr.drew.heap.size from hbd.size); unfold Own at h9; rw [HLK.out] at h9; exact h9); clear hb5 hown5)
              | (refine step_append_any (by rfl) (.tmp 140) (.tmp 144) 23 (by rfl) wr.heap.size 41 inf0 _ 4 40 Tryz.underlying23 hi jz0 jz1 jz2 rfl (by decide) _ k _ (by rfl) HO5.out.drew AK (Nd - (k + 1)) (cc - (k + 1)) (ld.flatMap chL) (by rfl) HN9.out (fun ad ha j u hj => cell_drew (HF9.out _ hw5 ad ha j u hj)) hAN.out H19.out (by unfold maxLen; omega) (by omega) z5 ?_; intro v9 w9 hown9 hgrow9; have hw9 : Below wr.heap.size wr w9 := Below.grown (by (repeat' (first | with_reducible exact Below.refl _ _ | with_reducible assumption | with_reducible refine Below.drew ?_ | with_reducible refine below_drewN ?_ _ | with_reducible refine Below.setCell ?_ ?_ _ | with_reducible refine Below.alloc ?_ ?_ _ | omega | (simp; done) | (simp; omega)))) hgrow9 z5 (fun q e => (HO5.out.lt _ e).1); have HO9 : Hid (Own chL 4 41 wr.heap.size w9 v9 lr) := Lib.hid (by unfold Own; rw [HLR.out, HFR.out]; exact hown9); clear hown9 hgrow9))
          have hw9w : Below w.heap.size w w9 := stepH hwr hw9
          obtain ⟨A9, c9, rfl, hr9, _, _⟩ := own_line (fun x _ => chL_len x) HO9.out
          have z9 := hw9w.size
          have RL := Lib.hid (row_step RL.out hw9)
          have RU := Lib.hid (row_step RU.out hw9)
          have RV := Lib.hid (row_step RV.out hw9)
          have RC := Lib.hid (row_step RC.out hw9)
          have RO := Lib.hid (row_step RO.out hw9)
          have HBW := Lib.hid (stepH HBW.out hw9)
          have RR := Lib.hid hr9
          clear hr9 HO9 HO5 hw5 HCP HN9 HF9 H19 RD
          go_wp2_with fail
          refine (make_any lr A9 c9 E m _ RR.out (by have := HLR.out; omega) (fun q hq => mayE_inC (rest_may CD.out OD.out q (by rw [HREQ.out]; exact hq))) (HE.out.below hw9w) (cell_at HM.out hw9w)).mono ?_
          rintro e w31 ⟨hmk, hb31⟩
          replace hb31 : Below w9.heap.size w9 w31 := stepH (by (repeat' (first | with_reducible exact Below.refl _ _ | with_reducible assumption | with_reducible refine Below.drew ?_ | with_reducible refine below_drewN ?_ _ | with_reducible refine Below.setCell ?_ ?_ _ | with_reducible refine Below.alloc ?_ ?_ _ | omega | (simp; done) | (simp; omega)))) hb31
          have hw31 : Below w.heap.size w w31 := stepH hw9w hb31
          have RL := Lib.hid (row_step RL.out hb31)
          have RU := Lib.hid (row_step RU.out hb31)
          have RV := Lib.hid (row_step RV.out hb31)
          have RC := Lib.hid (row_step RC.out hb31)
          have RO := Lib.hid (row_step RO.out hb31)
          have HBW := Lib.hid (stepH HBW.out hb31)
          have RR := Lib.hid (row_step RR.out hb31)
          have z31 := hw31.size
          clear hb31
          clear RR
          rcases hmk with ⟨hall, a, Ma, Na, rfl, ha, hna, _, _⟩ | ⟨⟨q, hq, hq2⟩, _⟩
          case inr => exact absurd (rest_may CD.out OD.out q (by rw [HREQ.out]; exact hq)) hq2
          have OMK := Lib.hid (makeF_ok hall)
          have AMK := Lib.hid ha
          have hna2 : Na ≤ 500 := by have := HLR.out; omega
          clear hall ha hna
          obtain ⟨g1, o1, rfl, hg1, p0, _, _, _⟩ := cellsC RC.out HX.out
          obtain ⟨g2, o2, rfl, hg2, q0, _, _, _⟩ := cellsC RO.out HO.out
          rw [HNO.out] at q0
          go_wp2_with fail
          have x0 : w31.drew.cell? ⟨g1, o1 + k * 4, none⟩ = some (.string c.name) := p0
          have x1 : w31.drew.cell? ⟨g2, o2 + k * 4, none⟩ = some (.string c.name) := q0
          go_region_held3 (fun w' => w'.cell? ⟨g1, o1 + k * 4, none⟩ = some (.string c.name) ∧ w'.cell? ⟨g2, o2 + k * 4, none⟩ = some (.string c.name)) (first | with_reducible exact ⟨x0, x1⟩ | go_keep)
            (fail)
          clear p0 q0 x0 x1
          have hwd : Below w31.heap.size w31 w31.drew := (Below.refl _ _).drew
          go_wp2_with fail
          refine (apply_in a Ma Na (makeF lr) ul u U cu E m _ (AMK.out.step hwd) (by omega) (row_step RU.out hwd) CU.out OU.out (by omega) (HE.out.below (stepH hw31 hwd)) (cell_at HM.out (stepH hw31 hwd)) NU.out OMK.out (app u (makeF lr)) rfl (ul.map itb ++ rs.map itb) (by rw [← HREQ.out]; exact rest_sup CD.out SU.out SV.out) (by rw [List.length_append, List.length_map, List.length_map]; omega)).mono ?_
          rintro e w32 ⟨⟨Z, cz, zs, rfl, hr, _, hc, hk⟩, hb32⟩
          replace hb32 : Below w31.heap.size w31 w32 := stepH (by (repeat' (first | with_reducible exact Below.refl _ _ | with_reducible assumption | with_reducible refine Below.drew ?_ | with_reducible refine below_drewN ?_ _ | with_reducible refine Below.setCell ?_ ?_ _ | with_reducible refine Below.alloc ?_ ?_ _ | omega | (simp; done) | (simp; omega)))) hb32
          have hw32 : Below w.heap.size w w32 := stepH hw31 hb32
          have RL := Lib.hid (row_step RL.out hb32)
          have RU := Lib.hid (row_step RU.out hb32)
          have RV := Lib.hid (row_step RV.out hb32)
          have RC := Lib.hid (row_step RC.out hb32)
          have RO := Lib.hid (row_step RO.out hb32)
          have HBW := Lib.hid (stepH HBW.out hb32)
          have AMK := Lib.hid (AMK.out.step hb32)
          have z32 := hw32.size
          clear hb32
          clear AMK
          have hzl : zs.length ≤ 400 := by rw [List.length_append, List.length_map, List.length_map] at hk; omega
          have HNE : Hid (¬ zs = rs) := Lib.hid (fun e => rest_wrong CD.out HX.out (by rw [HREQ.out]; exact (canonI_eq hc CV.out).1 e))
          clear hc hk
          have RZ := Lib.hid hr
          clear hr
          go_wp2_with fail
          refine (sameIs_any zs rs Z V cz cv _ RZ.out RV.out (by omega)).mono ?_
          rintro e w33 ⟨⟨bq, rfl, hbq⟩, hb33⟩
          replace hb33 : Below w32.heap.size w32 w33 := stepH (by (repeat' (first | with_reducible exact Below.refl _ _ | with_reducible assumption | with_reducible refine Below.drew ?_ | with_reducible refine below_drewN ?_ _ | with_reducible refine Below.setCell ?_ ?_ _ | with_reducible refine Below.alloc ?_ ?_ _ | omega | (simp; done) | (simp; omega)))) hb33
          have hw33 : Below w.heap.size w w33 := stepH hw32 hb33
          have RL := Lib.hid (row_step RL.out hb33)
          have RU := Lib.hid (row_step RU.out hb33)
          have RV := Lib.hid (row_step RV.out hb33)
          have RC := Lib.hid (row_step RC.out hb33)
          have RO := Lib.hid (row_step RO.out hb33)
          have HBW := Lib.hid (stepH HBW.out hb33)
          have RZ := Lib.hid (row_step RZ.out hb33)
          have z33 := hw33.size
          clear hb33
          obtain rfl : bq = false := by cases bq with | false => rfl | true => exact absurd (hbq.1 rfl) HNE.out
          clear hbq
          go_wp2_with fail
          go_roundw
          case rel => exact ⟨k + 1, by omega, by go_num, HBW.out⟩
          case measure => simp [intOf] <;> omega
        ·
          obtain rfl : k = k1.length := by omega
          have hlt2 : ¬ (k1.length : Int) < (k1.length : Int) := by omega
          have hlt3 : ¬ (Nd : Int) < (Nd : Int) := by omega
          go_wp2_with fail
          obtain ⟨w61, hu61⟩ : ∃ u, wr.alloc (.cells #[.slice A2 l.length c2] 23) = u := ⟨_, rfl⟩
          have hb61 : Below wr.heap.size wr w61 := by rw [← hu61]; (repeat' (first | with_reducible exact Below.refl _ _ | with_reducible assumption | with_reducible refine Below.drew ?_ | with_reducible refine below_drewN ?_ _ | with_reducible refine Below.setCell ?_ ?_ _ | with_reducible refine Below.alloc ?_ ?_ _ | omega | (simp; done) | (simp; omega)))
          have RG : Hid (RowAt grL 1 w61 w61.heap.size (some ⟨wr.heap.size, 0, none⟩) [(l, A2, c2)]) := Lib.hid (row_blk [(l, A2, c2)] grL_len (show w61.heap[wr.heap.size]? = some (.cells #[.slice A2 l.length c2] 23 (0, 0)) by rw [← hu61]; exact blk_new rfl) rfl)
          rw [hu61]
          have hw61 : Below w.heap.size w w61 := stepH hwr hb61
          have RL := Lib.hid (row_step RL.out hb61)
          have RU := Lib.hid (row_step RU.out hb61)
          have RV := Lib.hid (row_step RV.out hb61)
          have RC := Lib.hid (row_step RC.out hb61)
          have RO := Lib.hid (row_step RO.out hb61)
          have z61 := hw61.size
          clear hb61 hu61
          refine (good_any [(l, A2, c2)] (some ⟨wr.heap.size, 0, none⟩) 1 E m _ RG.out (fun q hq => by simp only [List.mem_cons, List.not_mem_nil, or_false] at hq; subst hq; exact ⟨RL.out, by show l.length ≤ 500; omega, IL.out⟩) (by show 1 ≤ 100; omega) (HE.out.below hw61) (cell_at HM.out hw61)).mono ?_
          rintro e w62 ⟨⟨hgd⟩, hb62⟩
          replace hb62 : Below w61.heap.size w61 w62 := stepH (by (repeat' (first | with_reducible exact Below.refl _ _ | with_reducible assumption | with_reducible refine Below.drew ?_ | with_reducible refine below_drewN ?_ _ | with_reducible refine Below.setCell ?_ ?_ _ | with_reducible refine Below.alloc ?_ ?_ _ | omega | (simp; done) | (simp; omega)))) hb62
          have hw62 : Below w.heap.size w w62 := stepH hw61 hb62
          have RL := Lib.hid (row_step RL.out hb62)
          have RU := Lib.hid (row_step RU.out hb62)
          have RV := Lib.hid (row_step RV.out hb62)
          have RC := Lib.hid (row_step RC.out hb62)
          have RO := Lib.hid (row_step RO.out hb62)
          have RG := Lib.hid (row_step RG.out hb62)
          have z62 := hw62.size
          clear hb62
          clear RG
          rcases hgd with rfl | ⟨AP, cP, ps, hpl, rfl, hpr, hpg⟩
          case inl =>
            go_wp2_with fail
            go_ret
            exact ⟨rfl, hw62⟩
          obtain ⟨⟨a, Ma⟩, rfl⟩ : ∃ p, ps = [p] := by
            match ps, hpl with
            | [p], _ => exact ⟨p, rfl⟩
          obtain ⟨hma, Na, ha, hna⟩ := hpg 0 _ _ rfl rfl
          dsimp only at hma ha hna
          obtain ⟨f, hf⟩ : ∃ f, makeF l = f := ⟨_, rfl⟩
          have OF : Hid (okA f) := Lib.hid (hf ▸ makeF_ok hma)
          rw [hf] at ha
          obtain ⟨cf, hcf, hlf⟩ := am_canon ha
          have CF := Lib.hid hcf
          have HLF := Lib.hid hlf
          have AA := Lib.hid ha
          obtain ⟨gp, op, rfl, pa⟩ := ptr_cell hpr (k := 0) rfl
          have RP := Lib.hid hpr
          dsimp only at pa
          rw [Nat.add_zero] at pa
          have S1 := Lib.hid (app_names SU.out CF.out)
          have hl1 : (ul.map itb ++ cf.map nmb).length ≤ 300 := by have := HLF.out; rw [List.length_append, List.length_map, List.length_map]; omega
          have HL1 := Lib.hid hl1
          clear ha hma hf hcf hlf hpr hpg hpl hl1
          go_wp2_with fail
          refine (apply_in a Ma Na f ul u U cu E m _ AA.out (by omega) RU.out CU.out OU.out (by omega) (HE.out.below hw62) (cell_at HM.out hw62) NU.out OF.out (app u f) rfl _ S1.out (by have := HL1.out; omega)).mono ?_
          rintro e w63 ⟨⟨T, ct, ts, rfl, hr, hn, hc, hk⟩, hb63⟩
          replace hb63 : Below w62.heap.size w62 w63 := stepH (by (repeat' (first | with_reducible exact Below.refl _ _ | with_reducible assumption | with_reducible refine Below.drew ?_ | with_reducible refine below_drewN ?_ _ | with_reducible refine Below.setCell ?_ ?_ _ | with_reducible refine Below.alloc ?_ ?_ _ | omega | (simp; done) | (simp; omega)))) hb63
          have hw63 : Below w.heap.size w w63 := stepH hw62 hb63
          have RL := Lib.hid (row_step RL.out hb63)
          have RU := Lib.hid (row_step RU.out hb63)
          have RV := Lib.hid (row_step RV.out hb63)
          have RC := Lib.hid (row_step RC.out hb63)
          have RO := Lib.hid (row_step RO.out hb63)
          have AA := Lib.hid (AA.out.step hb63)
          have RP := Lib.hid (row_step RP.out hb63)
          have z63 := hw63.size
          clear hb63
          have NT := Lib.hid hn
          have CT := Lib.hid hc
          have hts : ts.length ≤ 300 := Nat.le_trans hk HL1.out
          clear hn hc hk pa
          have RT := Lib.hid hr
          clear hr
          obtain ⟨gp2, op2, e1, pa⟩ := ptr_cell RP.out (k := 0) rfl
          cases e1
          dsimp only at pa
          rw [Nat.add_zero] at pa
          go_wp2_with fail
          refine (back_any a Ma Na f ul U cu E m _ AA.out (by omega) RU.out (CU.out.inI OU.out) (HE.out.below hw63) (cell_at HM.out hw63) NU.out OF.out (CU.out.fault OU.out (by omega)) (by omega)).mono ?_
          rintro e w64 ⟨⟨b, Mb, Nb, rfl, hb, hnb, _, _⟩, hb64⟩
          replace hb64 : Below w63.heap.size w63 w64 := stepH (by (repeat' (first | with_reducible exact Below.refl _ _ | with_reducible assumption | with_reducible refine Below.drew ?_ | with_reducible refine below_drewN ?_ _ | with_reducible refine Below.setCell ?_ ?_ _ | with_reducible refine Below.alloc ?_ ?_ _ | omega | (simp; done) | (simp; omega)))) hb64
          have hw64 : Below w.heap.size w w64 := stepH hw63 hb64
          have RL := Lib.hid (row_step RL.out hb64)
          have RU := Lib.hid (row_step RU.out hb64)
          have RV := Lib.hid (row_step RV.out hb64)
          have RC := Lib.hid (row_step RC.out hb64)
          have RO := Lib.hid (row_step RO.out hb64)
          have AA := Lib.hid (AA.out.step hb64)
          have RP := Lib.hid (row_step RP.out hb64)
          have RT := Lib.hid (row_step RT.out hb64)
          have z64 := hw64.size
          clear hb64
          rw [CU.out.inF] at hb
          clear pa
          clear AA RP
          have AB := Lib.hid hb
          clear hb
          have OFS := Lib.hid (okS_app OU.out OF.out)
          go_wp2_with fail
          refine (apply_in b Mb Nb (diffA (app u f) u) ts (app u f) T ct E m _ AB.out (by omega) RT.out CT.out OFS.out (by omega) (HE.out.below hw64) (cell_at HM.out hw64) NT.out (diff_ok OFS.out OU.out) u (app_diff _ _) _ SU.out (by rw [List.length_map]; omega)).mono ?_
          rintro e w65 ⟨⟨Q, cq, qs, rfl, hr, _, hc, _⟩, hb65⟩
          replace hb65 : Below w64.heap.size w64 w65 := stepH (by (repeat' (first | with_reducible exact Below.refl _ _ | with_reducible assumption | with_reducible refine Below.drew ?_ | with_reducible refine below_drewN ?_ _ | with_reducible refine Below.setCell ?_ ?_ _ | with_reducible refine Below.alloc ?_ ?_ _ | omega | (simp; done) | (simp; omega)))) hb65
          have hw65 : Below w.heap.size w w65 := stepH hw64 hb65
          have RL := Lib.hid (row_step RL.out hb65)
          have RU := Lib.hid (row_step RU.out hb65)
          have RV := Lib.hid (row_step RV.out hb65)
          have RC := Lib.hid (row_step RC.out hb65)
          have RO := Lib.hid (row_step RO.out hb65)
          have RT := Lib.hid (row_step RT.out hb65)
          have AB := Lib.hid (AB.out.step hb65)
          have z65 := hw65.size
          clear hb65
          obtain rfl := hc.unique CU.out
          clear hc
          have RQ := Lib.hid hr
          clear hr
          go_wp2_with fail
          refine (sameIs_fit qs Q U cq cu _ RQ.out RU.out (by omega)).mono ?_
          rintro e w66 ⟨rfl, hb66⟩
          replace hb66 : Below w65.heap.size w65 w66 := stepH (by (repeat' (first | with_reducible exact Below.refl _ _ | with_reducible assumption | with_reducible refine Below.drew ?_ | with_reducible refine below_drewN ?_ _ | with_reducible refine Below.setCell ?_ ?_ _ | with_reducible refine Below.alloc ?_ ?_ _ | omega | (simp; done) | (simp; omega)))) hb66
          have hw66 : Below w.heap.size w w66 := stepH hw65 hb66
          have RL := Lib.hid (row_step RL.out hb66)
          have RU := Lib.hid (row_step RU.out hb66)
          have RV := Lib.hid (row_step RV.out hb66)
          have RC := Lib.hid (row_step RC.out hb66)
          have RO := Lib.hid (row_step RO.out hb66)
          have RT := Lib.hid (row_step RT.out hb66)
          have AB := Lib.hid (AB.out.step hb66)
          have RQ := Lib.hid (row_step RQ.out hb66)
          have z66 := hw66.size
          clear hb66
          go_wp2_with fail
          go_ret
          exact ⟨rfl, hw66⟩
end Go.Proofs.YtmoeoomlggjaaaaGreatDoor
