/- Inputs: the walk. -/
import Derived.Test.YtmoeoomlggjaaaaGreatDoorAmO
import Derived.Laws.AppendOwnNone
namespace Go.Proofs.YtmoeoomlggjaaaaGreatDoor
open Go.RowKit Go.Maps

/-- 'append' onto a slice of the call's own, any source -/
theorem wpList_append_any {P : Program} {ops : Array Oper} {rest : List Oper} {o : Oper} {a : Act} {w : World} {Q : Exit → Act → World → Prop} (hgd : o.guard = none) (s x : Operand) (t : TypeId)
    (ho : o.op = .call { callee := .builtin .append, args := #[s, x], argTypes := #[t, t] })
    (base : Nat) (e : TypeId) (i : TypeInfo) (z : Value) (size bytes : Nat) (ht : P.underlying t = some (.slice e)) (hi : P.info? e = some i) (hz : i.zero = some z)
    (hsize : i.size = size) (hby : i.bytes = bytes) (hzs : z.cells.size = size) (hsz : 0 < size)
    (v : Value) (n : Nat) (xs : List Value) (hs : a.eval s = v) (hown : w.ownsRow base e size v n xs)
    (A : Option Addr) (m c : Nat) (news : List Value) (hx : a.eval x = .slice A m c) (hl : news.length = m * size) (hnews : ∀ ad, A = some ad → ∀ j u, news[j]? = some u → w.cell? (ad.add j) = some u) (hA : A = none → m = 0 ∧ c = 0) (h1 : ∀ u ∈ news, u.oneCell' = true)
    (h63 : n + m ≤ maxLen) (hbytes : (n + m) * bytes ≤ 140737488355328) (hbase : base ≤ w.heap.size)
    (h : ∀ v' w', w'.ownsRow base e size v' (n + m) (xs ++ news) → w.grownBy w' v.ownBlock → wpList P ops Q rest (a.put o.dst v') w') : wpList P ops Q (o :: rest) a w := by
  refine wpList_plain hgd fun K hK => ?_
  cases A with
  | some ad => exact wp_append_own w s x t ho base e i z size bytes ht hi hz hsize hby hzs hsz v n xs hs hown ad m c news hx hl (hnews ad rfl) h1 h63 hbytes hbase fun v' w' h2 h3 _ => hK _ _ (h v' w' h2 h3)
  | none =>
    obtain ⟨rfl, rfl⟩ := hA rfl
    have hrun := run_append_owned_none (P := P) (w := w) base t o.type e i size ht hi v n xs hown
    obtain rfl : news = [] := List.eq_nil_of_length_eq_zero (by simpa using hl)
    unfold Oper.wp
    simp [execOp, ho, resolve, invoke, builtin, hs, hx, hrun, Result.andThen]
    exact hK _ _ (h _ _ (by simpa using hown) ⟨rfl, rfl, rfl, Nat.le_refl _, fun _ _ _ => rfl⟩)

theorem rowFlat {α : Type} {enc : α → List Value} {size : Nat} (hs : ∀ x, (enc x).length = size) (hsz : 0 < size) {w : World} {B : Nat} {A : Option Addr} {l : List α} (h : RowAt enc size w B A l) : ∀ ad, A = some ad → ∀ j u, (l.flatMap enc)[j]? = some u → w.cell? (ad.add j) = some u := by
  intro ad ha j u hj
  have hlt : j < l.length * size := by rw [← flat_len (fun x _ => hs x)]; exact (List.getElem?_eq_some_iff.1 hj).1
  have hdiv : j / size < l.length := Nat.div_lt_of_lt_mul (by rw [Nat.mul_comm]; exact hlt)
  obtain ⟨b, hb⟩ : ∃ b, l[j / size]? = some b := ⟨l[j / size], List.getElem?_eq_getElem hdiv⟩
  obtain ⟨g, off, e, _, hc⟩ := h (j / size) b hb
  rw [e] at ha
  cases ha
  have hm : j % size < (enc b).length := by rw [hs]; exact Nat.mod_lt _ hsz
  have hf := flat_at (l := l) (enc := enc) (size := size) (fun x _ => hs x) hb (List.getElem?_eq_getElem hm)
  have hjd : j / size * size + j % size = j := Nat.div_add_mod' j size
  rw [hjd, hj] at hf
  have := hc (j % size) _ (List.getElem?_eq_getElem hm)
  rw [← hf, show off + j / size * size + j % size = off + j by omega] at this
  rw [Go.WideShapes.add_plain]
  exact this

theorem itL_one (l : List It) : ∀ u ∈ l.flatMap itL, u.oneCell' = true := by
  intro u hu
  obtain ⟨b, _, hb⟩ := List.mem_flatMap.1 hu
  simp only [itL, List.mem_cons, List.not_mem_nil, or_false] at hb
  rcases hb with rfl | rfl | rfl <;> rfl

def InI (x : It) : Prop := In8 x.n ∧ In8 x.d
set_option maxRecDepth 100000 in
set_option maxHeartbeats 8000000 in
theorem inputs_few (l : List It) (A : Option Addr) (cp : Nat) (E : Nat → Addr) (m : Int) (w : World) (hl : RowAt itL 3 w w.heap.size A l) (h5 : l.length ≤ 500) (hI : ∀ x ∈ l, InI x) (hE : Env LA E w) (hm : w.cell? ⟨4, 0, none⟩ = some (.int .i64 m)) (hA : A = none → cp = 0) :
    Calls Tryz.prog 8 #[.slice A l.length cp] w fun e w' => InputsR E l w.heap.size e w' ∧ Below w.heap.size w w' := by
  have hmm := @run_makeMap Tryz.prog
  have HL := Lib.hid hl
  have HI := Lib.hid hI
  have HE := Lib.hid hE
  have HM := Lib.hid hm
  have HA := Lib.hid hA
  have hF : faultI l = goI [] l := by unfold faultI; rw [if_neg (by omega)]
  have HF := Lib.hid hF
  have e5 : decide ((500 : Int) < (l.length : Int)) = false := decide_eq_false (by omega)
  have e6 : ¬ (500 : Int) < (l.length : Int) := by omega
  clear hl hI hE hm hF hA
  go_enter Tryz.func8, Tryz.ntmps8
  go_wp2_with fail
  have HO0 : Hid ((w.alloc (.map #[] 0)).ownsMap Tryz.prog 9 RV w.heap.size 0 (.map [])) := Lib.hid (World.ownsMap_made w Tryz.prog 9 RV)
  have HB0 : Hid (Below w.heap.size w (w.alloc (.map #[] 0))) := Lib.hid (by (repeat' (first | with_reducible exact Below.refl _ _ | with_reducible assumption | with_reducible refine Below.drew ?_ | with_reducible refine below_drewN ?_ _ | with_reducible refine Below.setCell ?_ ?_ _ | with_reducible refine Below.alloc ?_ ?_ _ | omega | (simp; done) | (simp; omega))))
  go_loopw [15] (fun i wr => ∃ (k : Nat) (seen : List (List UInt8)), k ≤ l.length ∧ i = .int .i64 k ∧ Hid (goI [] l = goI seen (l.drop k)) ∧ Hid (∃ D, wr.ownsMap Tryz.prog 9 RV w.heap.size k D ∧ ReadM D seen) ∧ Below w.heap.size w wr) (fun i _ => l.length - (intOf i).toNat)
  case atStart => exact ⟨0, [], Nat.zero_le _, rfl, Lib.hid rfl, Lib.hid ⟨.map [], HO0.out, ReadM.nil⟩, HB0.out⟩
  case round =>
    clear HO0 HB0
    obtain ⟨k, seen, hk, rfl, HG, HD, hwr⟩ := hrel
    have z4 := hwr.size
    by_cases hlt : k < l.length
    · obtain ⟨x, hx⟩ : ∃ x, l[k]? = some x := ⟨l[k], List.getElem?_eq_getElem hlt⟩
      obtain ⟨g1, o1, rfl, _, p0, p1, p2⟩ := cellsI (row_step HL.out hwr) hx
      have hdr : l.drop k = x :: l.drop (k + 1) := by
        rw [List.drop_eq_getElem_cons hlt]
        congr 1
        rw [List.getElem?_eq_getElem hlt] at hx
        injection hx
      obtain ⟨hn, hd⟩ := HI.out x (List.mem_of_getElem? hx)
      have hlt2 : (k : Int) < (l.length : Int) := by omega
      have hba : Below wr.heap.size wr (wr.alloc (.cells #[.string x.name, .int .i64 x.n, .int .i64 x.d] 53)) := by (repeat' (first | with_reducible exact Below.refl _ _ | with_reducible assumption | with_reducible refine Below.drew ?_ | with_reducible refine below_drewN ?_ _ | with_reducible refine Below.setCell ?_ ?_ _ | with_reducible refine Below.alloc ?_ ?_ _ | omega | (simp; done) | (simp; omega)))
      have BI : Hid ((wr.alloc (.cells #[.string x.name, .int .i64 x.n, .int .i64 x.d] 53)).heap[wr.heap.size]? = some (.cells #[.string x.name, .int .i64 x.n, .int .i64 x.d] 53 (0, 0))) := Lib.hid (blk_new rfl)
      have HG2 := Lib.hid (HG.out.trans (congrArg (goI seen) hdr))
      clear hx hdr HG
      cases hi : inB x.name with
      | false =>
        have HI2 := Lib.hid hi
        have HR : Hid (faultI l = some 2) := Lib.hid (by rw [HF.out, HG2.out, goI, if_pos hi])
        clear hi
        go_wp2_with fail
        refine (input_is x.name false m _ (cell_at HM.out (stepH hwr hba)) HI2.out).mono ?_
        rintro e w1 ⟨rfl, hb1⟩
        have hw1 : Below w.heap.size w w1 := stepH hwr (stepH hba hb1)
        have cE := (HE.out.below hw1).cell 2 (by decide)
        go_wp2_with fail
        go_region_held3 (fun w' => w'.cell? ⟨2, 0, none⟩ = some (.iface 184 (.pointer (some (E 2))))) (first | with_reducible exact cE | go_keep)
          (fail)
        go_wp2_with fail
        go_ret2
        exact ⟨⟨.inl ⟨_, HR.out, by unfold LA; simp, rfl⟩⟩, by (repeat' (first | with_reducible exact Below.refl _ _ | with_reducible assumption | with_reducible refine Below.drew ?_ | with_reducible refine below_drewN ?_ _ | with_reducible refine Below.setCell ?_ ?_ _ | with_reducible refine Below.alloc ?_ ?_ _ | omega | (simp; done) | (simp; omega)))⟩
      | true =>
        have HI2 := Lib.hid hi
        have hsz := inB_size hi
        clear hi
        go_wp2_with fail
        refine (input_is x.name true m _ (cell_at HM.out (stepH hwr hba)) HI2.out).mono ?_
        rintro e w1 ⟨rfl, hb1⟩
        have hr1 : Below wr.heap.size wr w1 := stepH hba hb1
        have hw1 : Below w.heap.size w w1 := stepH hwr hr1
        have B1 := keepH hb1 BI.out
        have cB1 := cellH B1
        cases hv : validB x.n x.d with
        | false =>
          have HV := Lib.hid hv
          have HR : Hid (faultI l = some 3) := Lib.hid (by rw [HF.out, HG2.out, goI, if_neg (by rw [HI2.out]; simp), if_pos hv])
          clear hv
          go_wp2_with fail
          refine (valid_is x.n x.d false _ HV.out hn.1 hn.2 hd.1 hd.2).mono ?_
          rintro e w2 ⟨rfl, hb2⟩
          have hw2 : Below w.heap.size w w2 := stepH hw1 hb2
          have cE := (HE.out.below hw2).cell 3 (by decide)
          go_wp2_with fail
          go_region_held3 (fun w' => w'.cell? ⟨3, 0, none⟩ = some (.iface 184 (.pointer (some (E 3))))) (first | with_reducible exact cE | go_keep)
            (fail)
          go_wp2_with fail
          go_ret2
          exact ⟨⟨.inl ⟨_, HR.out, by unfold LA; simp, rfl⟩⟩, by (repeat' (first | with_reducible exact Below.refl _ _ | with_reducible assumption | with_reducible refine Below.drew ?_ | with_reducible refine below_drewN ?_ _ | with_reducible refine Below.setCell ?_ ?_ _ | with_reducible refine Below.alloc ?_ ?_ _ | omega | (simp; done) | (simp; omega)))⟩
        | true =>
          have HV := Lib.hid hv
          clear hv
          go_wp2_with fail
          refine (valid_is x.n x.d true _ HV.out hn.1 hn.2 hd.1 hd.2).mono ?_
          rintro e w2 ⟨rfl, hb2⟩
          have hr2 : Below wr.heap.size wr w2 := stepH hr1 hb2
          have hw2 : Below w.heap.size w w2 := stepH hwr hr2
          have B2 := keepH hb2 B1.out
          have cB2 := cellH B2
          obtain ⟨D, hD1, hD2⟩ := HD.out
          have HO2 := Lib.hid (own_step hD1 hr2)
          have HRM := Lib.hid hD2
          have hrunL := hD2.find (name := x.name) (by unfold maxLen; omega) w2 k w.heap.size HO2.out
          clear hD1 hD2 HD B1 cB1
          by_cases hms : itb x ∈ seen
          · have HR : Hid (faultI l = some 0) := Lib.hid (by rw [HF.out, HG2.out, goI, if_neg (by rw [HI2.out]; simp), if_neg (by rw [HV.out]; simp), if_pos hms])
            rw [if_pos (show x.name.data.toList ∈ seen from hms)] at hrunL
            have cE := (HE.out.below hw2).cell 0 (by decide)
            clear hms
            go_wp2_with (at_lookup; refine wpList_lookup_is rfl _ _ _ _ rfl _ _ _ rfl rfl hrunL ?_)
            go_region_held3 (fun w' => w'.cell? ⟨0, 0, none⟩ = some (.iface 184 (.pointer (some (E 0))))) (first | with_reducible exact cE | go_keep)
              (fail)
            go_wp2_with fail
            go_ret2
            exact ⟨⟨.inl ⟨_, HR.out, by unfold LA; simp, rfl⟩⟩, by (repeat' (first | with_reducible exact Below.refl _ _ | with_reducible assumption | with_reducible refine Below.drew ?_ | with_reducible refine below_drewN ?_ _ | with_reducible refine Below.setCell ?_ ?_ _ | with_reducible refine Below.alloc ?_ ?_ _ | omega | (simp; done) | (simp; omega)))⟩
          · have HR : Hid (goI [] l = goI (itb x :: seen) (l.drop (k + 1))) := Lib.hid (by rw [HG2.out, goI, if_neg (by rw [HI2.out]; simp), if_neg (by rw [HV.out]; simp), if_neg hms])
            rw [if_neg (show ¬ x.name.data.toList ∈ seen from hms)] at hrunL
            have hkey := keyS_of (s := x.name) (by unfold maxLen; omega)
            clear hms
            go_wp2_with (first
              | (at_lookup; refine wpList_lookup_is rfl _ _ _ _ rfl _ _ _ rfl rfl hrunL ?_)
              | (at_mapUpdate; refine wpList_mapUpdate_own _ rfl _ _ _ 69 rfl 9 3 lawS Tryz.underlying69 RV w.heap.size k D rfl HO2.out (by unfold maxLen; omega) _ _ (keyS x.name) rfl rfl hkey (.held (.int .i64 1)) [] rfl ?_; intro w5 hown5 hg5))
            go_roundw
            case rel =>
              exact ⟨k + 1, itb x :: seen, by omega, by go_num, HR, Lib.hid ⟨_, hown5, HRM.out.put x.name⟩, Below.grown hw2 hg5 (by have := hw2.size; omega) (fun g hg => by injection hg with hg; omega)⟩
            case measure => simp [intOf] <;> omega
    · obtain rfl : k = l.length := by omega
      have hlt2 : ¬ (l.length : Int) < (l.length : Int) := by omega
      have HNF : Hid (faultI l = none) := Lib.hid (by rw [HF.out, HG.out, List.drop_length]; rfl)
      have HFL := Lib.hid (fun (W : World) (h : Below w.heap.size w W) => rowFlat (size := 3) itL_len (by decide) (HL.out.below h (Nat.le_refl _)))
      have H1 := Lib.hid (itL_one l)
      have HN := Lib.hid (flat_len (size := 3) (l := l) (fun x _ => itL_len x))
      have HA2 : Hid (A = none → l.length = 0 ∧ cp = 0) := Lib.hid (fun h => by
        refine ⟨?_, HA.out h⟩
        cases hq : l.length with
        | zero => rfl
        | succ n =>
          obtain ⟨x, hx⟩ : ∃ x, l[0]? = some x := ⟨l[0]'(by omega), List.getElem?_eq_getElem _⟩
          obtain ⟨_, _, e, _⟩ := HL.out 0 x hx
          rw [h] at e; cases e)
      obtain ⟨inf0, hi, jz0, jz1, jz2⟩ := info_parts infoIt
      obtain ⟨MC, hMC, hmk⟩ : ∃ MC : Array Value, MC.size = l.length * 3 ∧ ∀ w : World, (Instr.makeSlice 22 (.int .i64 0) (.int .i64 (l.length : Int))).run Tryz.prog w = .ok (.slice (some ⟨w.heap.size, 0, none⟩) 0 l.length) (w.alloc (.cells MC 53)) := by
        refine ⟨madeCells (Value.agg #[.string ⟨#[]⟩, .int .i64 0, .int .i64 0]).cells (l.length * inf0.size), by rw [size_madeCells, jz1], fun w => ?_⟩
        have h := run_make (P := Tryz.prog) (w := w) 22 53 inf0 _ Tryz.underlying22 hi jz0 .i64 .i64 0 (l.length : Int) (Int.le_refl _) (by omega) (by rw [jz2]; omega) (by omega)
        simpa using h
      have HMC := Lib.hid hMC
      clear HG HD HA hMC
      go_wp2_with (at_builtin; go_must (refine wpList_append_any rfl (.tmp 46) (.tmp 47) 22 rfl w.heap.size 53 inf0 _ 3 32 Tryz.underlying22 hi jz0 jz1 jz2 rfl (by decide) _ 0 [] rfl (made_own rfl z4 (by unfold maxLen; omega) HMC.out) A l.length cp (l.flatMap itL) rfl HN.out (HFL.out _ (by (repeat' (first | with_reducible exact Below.refl _ _ | with_reducible assumption | with_reducible refine Below.drew ?_ | with_reducible refine below_drewN ?_ _ | with_reducible refine Below.setCell ?_ ?_ _ | with_reducible refine Below.alloc ?_ ?_ _ | omega | (simp; done) | (simp; omega))))) HA2.out H1.out (by unfold maxLen; omega) (by omega) (by simp; omega) ?_); intro v9 w9 hown9 hgrow9)
      have hw9 : Below w.heap.size w w9 := Below.grown (Below.alloc hwr z4 _) hgrow9 (by simp; omega) (fun g hg => by
        have hg' : some wr.heap.size = some g := hg
        injection hg' with hg'; omega)
      have HO9 : Hid (Own itL 3 53 w.heap.size w9 v9 l) := Lib.hid (by unfold Own; simpa using hown9)
      obtain ⟨A9, c9, rfl, _, _, _⟩ := Own.rows (fun x _ => itL_len x) HO9.out
      clear hown9 hgrow9 hmk
      go_wp2_with fail
      refine (sortI_any l A9 c9 w.heap.size _ HO9.out (by omega) hw9.size).mono ?_
      rintro e w10 ⟨⟨rfl, rs, _, hors, hperm, hpw⟩, hb10⟩
      have HIR : Hid (∃ v rs, (Ending.returned (.tuple #[.slice A9 l.length c9, .nilIface]) = .returned (.tuple #[v, .nilIface])) ∧ Own itL 3 53 w.heap.size w10 v rs ∧ rs.Perm l ∧ rs.Pairwise (fun a b => leB (itb a) (itb b) = true)) := Lib.hid ⟨_, rs, rfl, hors, hperm, hpw⟩
      have hw10 : Below w.heap.size w w10 := hw9.trans hb10
      clear hors hperm hpw hb10
      go_wp2_with fail
      go_ret2
      exact ⟨⟨.inr ⟨HNF.out, HIR.out⟩⟩, hw10⟩
end Go.Proofs.YtmoeoomlggjaaaaGreatDoor
