/- Book.Keys: the plain law; the walk. -/
import Derived.Test.YtngckppnaflciaaDoorBkY
import Derived.Maps.RangeWalk
import Derived.OpenShut
namespace Go.Proofs.YtngckppnaflciaaDoor
open Go.RowKit Go.Maps

def ndp : List (List UInt8) → List (List UInt8)
  | [] => []
  | x :: r => if x ∈ r then ndp r else x :: ndp r
theorem ndp_mem {l : List (List UInt8)} {x : List UInt8} : x ∈ ndp l ↔ x ∈ l := by
  induction l with
  | nil => rfl
  | cons y r ih =>
    unfold ndp
    split
    · rename_i h
      rw [ih, List.mem_cons]
      exact ⟨.inr, fun e => by rcases e with rfl | e; exact h; exact e⟩
    · rw [List.mem_cons, List.mem_cons, ih]
theorem ndp_nodup (l : List (List UInt8)) : (ndp l).Nodup := by
  induction l with
  | nil => exact List.nodup_nil
  | cons y r ih =>
    unfold ndp
    split
    · exact ih
    · rename_i h
      rw [List.nodup_cons, ndp_mem]
      exact ⟨h, ih⟩
def keyb (p : Pv) : List UInt8 := p.key.data.toList
def keysL (S : List Pv) : List (List UInt8) := ndp ((S.map keyb).filter (fun x => !x.isEmpty))
theorem keysL_mem {S : List Pv} {x : List UInt8} : x ∈ keysL S ↔ x ≠ [] ∧ ∃ p ∈ S, keyb p = x := by
  unfold keysL
  rw [ndp_mem, List.mem_filter, List.mem_map]
  constructor
  · rintro ⟨h, h2⟩; exact ⟨by intro e; rw [e] at h2; simp at h2, h⟩
  · rintro ⟨h, h2⟩; exact ⟨h2, by cases x with | nil => exact absurd rfl h | cons _ _ => rfl⟩
/-- what Keys answers -/
def toBA (x : List UInt8) : ByteArray := ⟨x.toArray⟩
def keysS (S : List Pv) : List ByteArray := ((keysL S).mergeSort leB).map toBA
theorem keysS_perm {S S' : List Pv} (h : S.Perm S') : keysS S = keysS S' := by
  have e : (keysL S).Perm (keysL S') := (List.perm_ext_iff_of_nodup (ndp_nodup _) (ndp_nodup _)).2 fun x => by
    show x ∈ keysL S ↔ x ∈ keysL S'
    rw [keysL_mem, keysL_mem]
    exact and_congr Iff.rfl ⟨fun ⟨p, hp, e⟩ => ⟨p, h.mem_iff.1 hp, e⟩, fun ⟨p, hp, e⟩ => ⟨p, h.mem_iff.2 hp, e⟩⟩
  unfold keysS
  rw [mergeSort_of_perm e]
theorem keysL_len (S : List Pv) : (keysL S).length ≤ S.length := by
  have h : ∀ l : List (List UInt8), (ndp l).length ≤ l.length := by
    intro l
    induction l with
    | nil => exact Nat.le_refl _
    | cons y r ih => unfold ndp; split <;> simp <;> omega
  exact Nat.le_trans (h _) (Nat.le_trans (List.length_filter_le ..) (by simp))

set_option maxRecDepth 100000 in
set_option maxHeartbeats 4000000 in
theorem clipS_any (A : Option Addr) (n c : Nat) (w : World) (hc : n ≤ c) (hm : c ≤ maxLen) (hA : A = none → c = 0) : Calls Tryd.prog 26 #[.slice A n c] w fun e w' => e = .returned (.slice A n n) ∧ w' = w := by
  replace hm : c ≤ 9223372036854775807 := by unfold maxLen at hm; omega
  cases A with
  | none =>
    obtain rfl : c = 0 := hA rfl
    obtain rfl : n = 0 := by omega
    go_enter Tryd.func26, Tryd.ntmps26
    go_wp2_with fail
    go_ret
    exact ⟨rfl, rfl⟩
  | some a =>
    go_enter Tryd.func26, Tryd.ntmps26
    go_wp2_with fail
    go_ret
    exact ⟨rfl, rfl⟩

set_option maxRecDepth 100000 in
/-- the step of a range over a book's map -/
theorem wpList_next_book {w : World} {ops : Array Oper} {rest : List Oper} {o : Oper} {a : Act} {Q : Exit → Act → World → Prop} (hg : o.guard = none) (it : Operand) (hop : o.op = Op.next it false) (M r n : Nat) (D : DataW Value) (left : Lit → Bool) (cnt : Nat) (S : List Pv)
    (hit : a.eval it = .pointer (some ⟨r, 0, none⟩)) (h : w.ranges Tryd.prog 9 RV M r n D left cnt) (hr : ReadS w D S)
    (hDone : (∀ kl, left kl = false) → wpList Tryd.prog ops Q rest (a.put o.dst (.tuple #[.bool false])) w)
    (hMore : ∀ (p : Pv) (A : Option Addr) (c : Nat) (w' : World) (cnt' : Nat), p ∈ S → PvAt w w.heap.size p A c → left (keyS p.id) = true → w'.ranges Tryd.prog 9 RV M r n D (fun z => left z && !z.sameKey (keyS p.id)) cnt' → cnt' < cnt →
      w.grownBy w' (some r) → w'.heap.size = w.heap.size → (Instr.entry (.pointer (some ⟨r, 0, none⟩))).run Tryd.prog w' = .ok (.tuple #[.string p.id, pvV p A c]) w' → wpList Tryd.prog ops Q rest (a.put o.dst (.tuple #[.bool true, .string p.id, pvV p A c])) w') :
    wpList Tryd.prog ops Q (o :: rest) a w := by
  refine wpList_plain hg fun K' hK' => ?_
  unfold Oper.wp
  rcases h.next lawS o.type with ⟨h0, hl, hrun⟩ | ⟨key, v, kl, y, w', cnt', hkey, hlk, hv, hat, hrun, hrg, hlt, hgr, hsz, hen⟩
  · simp [execOp, hop, hit, hrun, Result.andThen]
    exact hK' _ _ (hDone hl)
  · obtain ⟨x, rfl, rfl, hx⟩ := Maps.keyOf_str Tryd.underlying9 hkey
    obtain ⟨p, hp, hpx⟩ := (hr.has x).1 (has_true_of_atKey hat)
    obtain ⟨A, c, h1, h2⟩ := hr.at' p hp
    have e : y.1 = .held v := by unfold RV at hv; injection hv with hv; rw [← hv]
    have e2 : y.1 = .held (pvV p A c) := (hat (.held (pvV zeroPv none 0))).symm.trans (by rw [← hpx]; exact h1 _)
    rw [e] at e2
    injection e2 with e2
    subst e2
    have e3 : Proofs.encStr x = .string p.id := by rw [← hpx]; exact enc_idb p
    have e4 : Lit.string x = keyS p.id := by rw [← hpx]; rfl
    rw [e3] at hrun hen
    rw [e4] at hlk hrg
    simp [execOp, hop, hit, hrun, Result.andThen]
    exact hK' _ _ (hMore p A c w' cnt' hp h2 hlk hrg hlt hgr hsz hen)

/-- the datum of the keys' map -/
structure KeysD (D2 : DataW Value) (left : Lit → Bool) (S : List Pv) : Prop where
  isMap : IsMap D2
  has : ∀ x, Maps.has D2 (.string x) = true ↔ x ≠ [] ∧ ∃ p ∈ S, left (keyS p.id) = false ∧ keyb p = x
theorem left_or {left : Lit → Bool} {z k : Lit} (h : (left z && !z.sameKey k) = false) : left z = false ∨ z = k := by
  cases hl : left z with
  | false => exact .inl rfl
  | true =>
    rw [hl] at h
    right
    refine WideAt.sameKey_eq ?_
    simpa using h
theorem same_id {S : List Pv} (hn : (S.map idb).Nodup) {p q : Pv} (hp : p ∈ S) (hq : q ∈ S) (h : idb p = idb q) : p = q := by
  have h1 := getS_of hn hp
  rw [h, getS_of hn hq] at h1
  injection h1 with h1
  exact h1.symm
section
variable {D2 : DataW Value} {left : Lit → Bool} {S : List Pv}
theorem KeysD.skip (h : KeysD D2 left S) (hn : (S.map idb).Nodup) {p : Pv} (hp : p ∈ S) (he : keyb p = []) : KeysD D2 (fun z => left z && !z.sameKey (keyS p.id)) S := ⟨h.isMap, fun x => by
  rw [h.has x]
  refine and_congr_right fun hx => ⟨fun ⟨q, hq, h1, h2⟩ => ⟨q, hq, by simp [h1], h2⟩, fun ⟨q, hq, h1, h2⟩ => ?_⟩
  rcases left_or h1 with h3 | h3
  · exact ⟨q, hq, h3, h2⟩
  · have := same_id hn hq hp (by unfold keyS at h3; injection h3)
    subst this
    exact absurd (h2.symm.trans he) hx⟩
theorem KeysD.put (h : KeysD D2 left S) (hn : (S.map idb).Nodup) {p : Pv} (hp : p ∈ S) (he : keyb p ≠ []) (d : DataW Value) : KeysD (D2.put (keyS p.key) d) (fun z => left z && !z.sameKey (keyS p.id)) S := ⟨h.isMap.put _ _, fun x => by
  by_cases e : x = keyb p
  · subst e
    exact ⟨fun _ => ⟨he, p, hp, by simp [WideAt.sameKey_self (strL_lit _), keyS], rfl⟩, fun _ => has_put_same h.isMap (strL_lit _) _⟩
  · rw [has_put_other (show (Lit.string x) ≠ keyS p.key from fun q => e (by unfold keyS at q; injection q)), h.has x]
    refine and_congr_right fun hx => ⟨fun ⟨q, hq, h1, h2⟩ => ⟨q, hq, by simp [h1], h2⟩, fun ⟨q, hq, h1, h2⟩ => ?_⟩
    rcases left_or h1 with h3 | h3
    · exact ⟨q, hq, h3, h2⟩
    · have := same_id hn hq hp (by unfold keyS at h3; injection h3)
      subst this
      exact absurd h2.symm e⟩
theorem KeysD.start {D : DataW Value} {w : World} (hr : ReadS w D S) : KeysD (.map []) (Maps.has D) S := ⟨isMap_empty, fun x => by
  constructor
  · intro h; rw [has_eq] at h; simp at h
  · rintro ⟨_, p, hp, h1, _⟩
    have := (hr.has (idb p)).2 ⟨p, hp, rfl⟩
    rw [show Lit.string (idb p) = keyS p.id from rfl, h1] at this
    cases this⟩
theorem KeysD.perm {w : World} {K n : Nat} (h : KeysD D2 left S) (hl : ∀ z, left z = false) (ho : w.ownsMap Tryd.prog 9 (plainElem Tryd.prog 3) K n D2) : (keysL S).Perm (strKeys D2) := by
  obtain ⟨es, rfl, hpw, _⟩ := ho.entries lawS
  obtain ⟨es', e, hko⟩ := ho.keysOf
  injection e with e
  subst e
  exact perm_strKeys hpw (fun p hp => by obtain ⟨v, hv⟩ := hko p hp; obtain ⟨x, _, hx, _⟩ := Maps.keyOf_str Tryd.underlying9 hv; exact ⟨x, hx⟩) (ndp_nodup _) (fun x => by
    rw [h.has x]
    exact keysL_mem.trans (and_congr_right fun _ => ⟨fun ⟨p, hp, e⟩ => ⟨p, hp, hl _, e⟩, fun ⟨p, hp, _, e⟩ => ⟨p, hp, e⟩⟩))
end
theorem zeroI (w : World) : (zeroValue 3).run Tryd.prog w = .ok (.int .i64 0) w := by kernel_rfl

set_option maxRecDepth 100000 in
set_option maxHeartbeats 16000000 in
theorem keys_any (b M : Nat) (cl : Bool) (S : List Pv) (w : World) (h : BookAt w b M cl S) (hS : S.length ≤ 100000) :
    Calls Tryd.prog 13 #[.pointer (some ⟨b, 0, none⟩)] w fun e w' => (∃ A c, e = .returned (.slice A (keysS S).length c) ∧ RowAt encS 1 w' w'.heap.size A (keysS S)) ∧ Below w.heap.size w w' := by
  have hmm := @run_makeMap Tryd.prog
  have HH := Lib.hid h
  have BX := Lib.hid h.box
  have cB := cellH BX
  obtain ⟨lB, lB1, lB2⟩ := ltH BX
  obtain ⟨D, hown, hr⟩ := h.own
  have hsz := size_is hown hr
  have HR := Lib.hid hr
  have HO := Lib.hid hown
  have HND := Lib.hid hr.nodup
  clear h hown hr
  go_enter Tryd.func13, Tryd.ntmps13
  have cB2 := fun o => cell_alloc (o := o) (cB 0)
  go_wp2_with (at_range; refine wpList_range_own _ rfl _ 53 rfl 9 43 lawS Tryd.underlying53 RV M S.length D rfl (HO.out.alloc _) ?_; intro w1 hrg1 hg1 hs1)
  have hsa : (w.alloc (.map #[] 0)).heap.size = w.heap.size + 1 := by simp
  rw [hsa] at hrg1 ⊢
  have hb1 : Below w.heap.size w w1 := Below.grown (by (repeat' (first | with_reducible exact Below.refl _ _ | with_reducible assumption | with_reducible refine Below.drew ?_ | with_reducible refine below_drewN ?_ _ | with_reducible refine Below.setCell ?_ ?_ _ | with_reducible refine Below.alloc ?_ ?_ _ | omega | (simp; done) | (simp; omega)))) hg1 (by simp) (fun g hg => by cases hg)
  have hk1 : w1.ownsMap Tryd.prog 9 (plainElem Tryd.prog 3) w.heap.size 0 (.map []) := (World.ownsMap_made w Tryd.prog 9 (plainElem (H := Value) Tryd.prog 3)).kept hg1 (by simp)
  have hlM : M < w.heap.size := HH.out.lt.2
  clear cB cB2 hg1 hs1
  go_frame
  go_loopw [12] (fun _ wr => ∃ (left : Lit → Bool) (cnt n2 : Nat) (D2 : DataW Value), Hid (wr.ranges Tryd.prog 9 RV M (w.heap.size + 1) S.length D left cnt) ∧ Hid (wr.ownsMap Tryd.prog 9 (plainElem Tryd.prog 3) w.heap.size n2 D2) ∧ Hid (KeysD D2 left S) ∧ n2 + cnt ≤ S.length ∧ Below w.heap.size w wr) (fun _ wr => wr.rangeLeft M (w.heap.size + 1))
  case atStart => exact ⟨_, _, 0, .map [], hrg1, hk1, KeysD.start HR.out, by omega, hb1⟩
  case round =>
    obtain ⟨left, cnt, n2, D2, HRG, HK2, HKD, hn2, hb⟩ := hrel
    have zr := hb.size
    have hlq := HK2.out.lt
    go_wp2_with (at_next; refine wpList_next_book rfl _ rfl M _ S.length D left cnt S rfl HRG.out (HR.out.step hb) ?_ ?_)
    · intro hl
      have HLF := Lib.hid hl
      have HKP := Lib.hid (HKD.out.perm hl HK2.out)
      have hpl := HKP.out.length_eq
      have hkl := keysL_len S
      have hszD : Maps.size D2 = (keysL S).length := by
        rw [hpl]
        obtain ⟨es, e, _⟩ := HK2.out.entries lawS
        subst e
        exact (List.length_map ..).symm
      have HKY := Lib.hid (fun mb W => callsIn_wide.1 (Tryd.maps_Keys_28 mb W))
      have HSO := Lib.hid (callsIn_wide.1 (Tryd.slices_Sorted_keys_27_28 w.heap.size n2 D2 _ wr HK2.out (by rw [hszD]; unfold maxLen; omega) (by rw [hszD]; omega)))
      clear hl
      go_wp2_with fail
      refine (HKY.out _ _).mono ?_
      rintro e w3 ⟨rfl, rfl⟩
      go_wp2_with fail
      refine HSO.out.mono ?_
      rintro e w4 ⟨v, ss, rfl, hperm, hrow, _, hb4⟩
      have hw4 : Below w.heap.size w w4 := stepH (by (repeat' (first | with_reducible exact Below.refl _ _ | with_reducible assumption | with_reducible refine Below.drew ?_ | with_reducible refine below_drewN ?_ _ | with_reducible refine Below.setCell ?_ ?_ _ | with_reducible refine Below.alloc ?_ ?_ _ | omega | (simp; done) | (simp; omega)))) hb4
      have HID : ss.mergeSort (fun x y => decide (x ≤ y)) = (keysL S).mergeSort leB := mergeSort_of_perm (hperm.trans HKP.out.symm)
      rw [HID] at hrow
      have hlen : ss.length = (keysS S).length := by rw [hperm.length_eq, ← hpl]; unfold keysS; rw [List.length_map, List.length_mergeSort]
      rw [hlen] at hrow
      obtain ⟨A4, c4, hv4, h4, h4m, h4r⟩ := Own.rows (l := keysS S) (enc := encS) (size := 1) (e := 9) (base := (wr.alloc (.cells #[.map (some w.heap.size)] 64)).heap.size) (w := w4) (v := v) (fun x _ => rfl) (by
        unfold Own
        rw [show (keysS S).flatMap encS = ((keysL S).mergeSort leB).map Proofs.encStr by unfold keysS encS; rw [flat1, List.map_map]; rfl]
        exact hrow)
      obtain ⟨A5, c5, hv5, _, h5n, _⟩ := own_line (l := keysS S) (enc := encS) (size := 1) (e := 9) (base := (wr.alloc (.cells #[.map (some w.heap.size)] 64)).heap.size) (w := w4) (v := v) (fun x _ => rfl) (by
        unfold Own
        rw [show (keysS S).flatMap encS = ((keysL S).mergeSort leB).map Proofs.encStr by unfold keysS encS; rw [flat1, List.map_map]; rfl]
        exact hrow)
      rw [hv4] at hv5
      injection hv5 with q1 q2 q3
      subst q1 q3 hv4
      have HR4 := Lib.hid h4r
      have HB4 := Lib.hid hw4
      clear h4r hrow hperm hb4 HID
      go_wp2_with fail
      refine (clipS_any A4 _ c4 _ h4 h4m h5n).mono ?_
      rintro e w10 ⟨rfl, rfl⟩
      go_wp2_with fail
      go_ret
      exact ⟨⟨A4, _, rfl, HR4.out⟩, HB4.out⟩
    · intro p A c w2 cnt2 hp hpa hlk hrg2 hlt hg2 hs2 hen
      have HRG2 := Lib.hid hrg2
      have hpi := (HR.out.inn p hp).1
      have hb2 : Below w.heap.size w w2 := Below.grown hb hg2 (by omega) (fun g hg => by injection hg with hg; omega)
      have HK3 : Hid (w2.ownsMap Tryd.prog 9 (plainElem Tryd.prog 3) w.heap.size n2 D2) := Lib.hid (HK2.out.kept hg2 (fun e => by injection e with e; omega))
      have hlt2 := hlt
      clear hrg2 hpa hlk hg2
      unfold pvV at hen
      cases he : p.key.toList.isEmpty with
      | true =>
        have HE : Hid (KeysD D2 (fun z => left z && !z.sameKey (keyS p.id)) S) := Lib.hid (HKD.out.skip HND.out hp (by have e := he; rw [ByteArray.toList_eq] at e; exact List.isEmpty_iff.1 e))
        go_wp2_with fail
        go_roundw
        case rel =>
          exact ⟨_, cnt2, n2, D2, Lib.hid (HRG2.out.alloc _), Lib.hid (HK3.out.alloc _), HE, by omega, by (repeat' (first | with_reducible exact Below.refl _ _ | with_reducible assumption | with_reducible refine Below.drew ?_ | with_reducible refine below_drewN ?_ _ | with_reducible refine Below.setCell ?_ ?_ _ | with_reducible refine Below.alloc ?_ ?_ _ | omega | (simp; done) | (simp; omega)))⟩
        case measure =>
          have e1 := (HRG2.out.alloc (.cells #[.string p.id, .string p.key, .int .i64 p.s0, .int .i64 p.s1, .int .i64 p.ena, .int .i64 p.rank, .string p.rep, .int .i64 p.kind, .int .i64 p.n, .int .i64 p.d, .slice A p.scale.length c, .string p.rule, .int .i64 p.mode, .int .i64 p.un, .int .i64 p.ud] 43)).left_eq
          have e2 := HRG.out.left_eq
          rw [e1, e2]; exact hlt2
      | false =>
        have hne : keyb p ≠ [] := by
          intro e
          have e2 := he
          rw [ByteArray.toList_eq] at e2
          rw [show p.key.data.toList = [] from e] at e2
          cases e2
        have hkey := keyS_of (s := p.key) (by have := hpi.key; unfold maxLen; omega)
        have HO3 := Lib.hid (HK3.out.alloc (.cells #[.string p.id, .string p.key, .int .i64 p.s0, .int .i64 p.s1, .int .i64 p.ena, .int .i64 p.rank, .string p.rep, .int .i64 p.kind, .int .i64 p.n, .int .i64 p.d, .slice A p.scale.length c, .string p.rule, .int .i64 p.mode, .int .i64 p.un, .int .i64 p.ud] 43))
        obtain ⟨cv, hrunL, _, hwf⟩ := HO3.out.lookup_int lawS Tryd.underlying64 Tryd.underlying3 (zeroI _) hkey
        have HPUT := Lib.hid (fun d => HKD.out.put HND.out hp hne d)
        go_wp2_with (first
          | (at_lookup; refine wpList_lookup_is rfl _ _ _ _ rfl _ _ _ rfl rfl hrunL ?_)
          | (at_mapUpdate; refine wpList_mapUpdate_own _ rfl _ _ _ 64 rfl 9 3 lawS Tryd.underlying64 _ w.heap.size n2 D2 rfl HO3.out (by unfold maxLen; omega) _ _ (keyS p.key) rfl rfl hkey (.lit (.int .i64 (wrap64 (cv + 1)))) [] (plainElem_int Tryd.underlying3 (RowKit.wrap64_wf _)) ?_; intro w5 hown5 hg5))
        go_roundw
        case rel =>
          (repeat apply Exists.intro)
          refine And.intro ?_ rfl
          exact ⟨_, cnt2, n2 + 1, _, Lib.hid ((HRG2.out.alloc _).kept hg5 (fun e => by injection e with e; omega) (fun e => by injection e with e; omega)), Lib.hid hown5, Lib.hid (HPUT.out _), by omega, Below.grown (by (repeat' (first | with_reducible exact Below.refl _ _ | with_reducible assumption | with_reducible refine Below.drew ?_ | with_reducible refine below_drewN ?_ _ | with_reducible refine Below.setCell ?_ ?_ _ | with_reducible refine Below.alloc ?_ ?_ _ | omega | (simp; done) | (simp; omega)))) hg5 (by simp; omega) (fun g hg => by cases hg; omega)⟩
        case measure =>
          have e1 := ((HRG2.out.alloc _).kept hg5 (fun e => by injection e with e; omega) (fun e => by injection e with e; omega)).left_eq
          have e2 := HRG.out.left_eq
          rw [e1, e2]; exact hlt2
end Go.Proofs.YtngckppnaflciaaDoor
