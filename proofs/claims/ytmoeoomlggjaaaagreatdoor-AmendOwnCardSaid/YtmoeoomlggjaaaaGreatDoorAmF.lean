/- An amendment's names and its changes, sorted: the plain law, the walks. -/
import Derived.Test.YtmoeoomlggjaaaaGreatDoorAmE
import Derived.Test.YtmoeoomlggjaaaaGreatDoorIter
import Derived.Laws.MakeOwn
import Derived.Deep.AppendLies
namespace Go.Proofs.YtmoeoomlggjaaaaGreatDoor
open Go.RowKit Go.Maps

theorem leB_trans : ∀ a b c : List UInt8, leB a b = true → leB b c = true → leB a c = true := fun a b c h1 h2 => by simp only [leB, decide_eq_true_eq] at *; exact List.le_trans h1 h2
theorem leB_total : ∀ a b : List UInt8, (leB a b || leB b a) = true := fun a b => by simp only [leB, Bool.or_eq_true, decide_eq_true_eq]; exact List.le_total a b
theorem leB_anti {a b : List UInt8} (h1 : leB a b = true) (h2 : leB b a = true) : a = b := by simp only [leB, decide_eq_true_eq] at *; exact List.le_antisymm h1 h2
/-- the sorted names of f -/
structure SK (f : Am) (ks : List (List UInt8)) : Prop where
  sorted : ks.Pairwise (fun x y => leB x y = true)
  nodup : ks.Nodup
  mem : ∀ x, x ∈ ks ↔ (f x).isSome = true
theorem SK.unique {f : Am} {k1 k2 : List (List UInt8)} (h1 : SK f k1) (h2 : SK f k2) : k1 = k2 :=
  List.Perm.eq_of_pairwise (le := fun a b => leB a b = true) (fun a b _ _ q1 q2 => leB_anti q1 q2) h1.sorted h2.sorted ((List.perm_ext_iff_of_nodup h1.nodup h2.nodup).2 (fun x => (h1.mem x).trans (h2.mem x).symm))
/-- the changes of f by rising names -/
structure Canon (f : Am) (l : List Ch) : Prop where
  keys : SK f (l.map nmb)
  at' : ∀ c ∈ l, f (nmb c) = some c
theorem Canon.unique {f : Am} {l1 l2 : List Ch} (h1 : Canon f l1) (h2 : Canon f l2) : l1 = l2 := by
  have hk := h1.keys.unique h2.keys
  have e : ∀ l : List Ch, (∀ c ∈ l, f (nmb c) = some c) → (l.map nmb).filterMap f = l := by
    intro l hl
    induction l with
    | nil => rfl
    | cons c r ih => rw [List.map_cons, List.filterMap_cons, hl c (List.mem_cons_self ..), ih (fun x hx => hl x (List.mem_cons_of_mem _ hx))]
  rw [← e l1 h1.at', ← e l2 h2.at', hk]

theorem RA_keys {w w' : World} {M n : Nat} {D : DataW Value} {f : Am} (ho : w.ownsMap Tryz.prog 9 RV M n D) (h : ReadA w' D f) {ss : List (List UInt8)} (hp : ss.Perm (strKeys D)) : SK f (ss.mergeSort leB) := by
  obtain ⟨es, rfl, hpw, _⟩ := ho.entries lawS
  obtain ⟨es', e, hko⟩ := ho.keysOf
  injection e with e
  subst e
  have hks : ∀ p ∈ es, ∃ x, p.1 = .string x := fun p hp => by obtain ⟨v, hv⟩ := hko p hp; obtain ⟨x, _, hx, _⟩ := Maps.keyOf_str Tryz.underlying9 hv; exact ⟨x, hx⟩
  have hmem : ∀ x, x ∈ strKeys (.map es) ↔ Maps.has (.map es) (.string x) = true := fun x => by
    rw [has_eq, List.any_eq_true]
    show x ∈ es.map (fun p => strOf p.1) ↔ _
    rw [List.mem_map]
    constructor
    · rintro ⟨p, hp, rfl⟩
      obtain ⟨a, ha⟩ := hks p hp
      exact ⟨p, hp, by rw [ha]; simp [Lit.sameKey, strOf]⟩
    · rintro ⟨p, hp, hq⟩
      obtain ⟨a, ha⟩ := hks p hp
      refine ⟨p, hp, ?_⟩
      rw [ha] at hq ⊢
      simpa [Lit.sameKey, strOf] using hq
  have hnd : (strKeys (.map es)).Nodup := by
    show (es.map fun p => strOf p.1).Nodup
    refine List.pairwise_map.2 (hpw.imp_of_mem fun {p q} hp' hq' hne e => hne ?_)
    obtain ⟨a, ha⟩ := hks p hp'
    obtain ⟨b, hb⟩ := hks q hq'
    rw [ha, hb] at e ⊢
    exact congrArg _ e
  exact ⟨List.pairwise_mergeSort leB_trans leB_total ss, (List.mergeSort_perm ss leB).nodup_iff.2 (hp.nodup_iff.2 hnd), fun x => by
    rw [List.mem_mergeSort, hp.mem_iff, hmem x, h.has x]⟩
theorem keys_size {w : World} {M n : Nat} {D : DataW Value} (ho : w.ownsMap Tryz.prog 9 RV M n D) : (strKeys D).length = Maps.size D := by
  obtain ⟨es, rfl, _⟩ := ho.entries lawS
  rw [size_eq]
  exact List.length_map ..

theorem zeroC (w : World) : (zeroValue 77).run Tryz.prog w = .ok (.agg #[.string ⟨#[]⟩, .bool false, .int .i64 0, .int .i64 0, .nilFunc]) w := by kernel_rfl
set_option maxRecDepth 100000 in
/-- what a lookup finds -/
theorem ReadA.find {w : World} {D : DataW Value} {f : Am} (h : ReadA w D f) {c : Ch} {x : List UInt8} (hc : f x = some c) : nmb c = x ∧ c.name.size ≤ maxLen ∧ ∃ g, BoxC w g c ∧ ∀ (W : World) (n M : Nat), W.ownsMap Tryz.prog 9 RV M n D → (Instr.lookup 79 (.map (some M)) (.string c.name) true).run Tryz.prog W = .ok (.tuple #[enV c g, .bool true]) W ∧ (Instr.lookup 79 (.map (some M)) (.string c.name) false).run Tryz.prog W = .ok (enV c g) W := by
  obtain ⟨hx, hs, g, hg, hb⟩ := h.at' x c hc
  refine ⟨hx, hs, g, hb, fun W n M ho => ?_⟩
  have hkey := keyS_of hs
  have ek : keyS c.name = .string x := by rw [← hx]; rfl
  have hh : Maps.has D (keyS c.name) = true := by rw [ek, h.has, hc]; rfl
  constructor
  · obtain ⟨v, ps, hr, hv⟩ := ho.look_ok lawS Tryz.underlying79 (zeroC W) (zd := .held (.agg #[.string ⟨#[]⟩, .bool false, .int .i64 0, .int .i64 0, .nilFunc])) (zp := []) rfl hkey
    have e := RV_inv hv
    rw [ek, hg] at e
    injection e with e
    rw [hr, hh, e]
  · obtain ⟨v, ps, hr, hv⟩ := ho.lookup lawS Tryz.underlying79 (zeroC W) (zd := .held (.agg #[.string ⟨#[]⟩, .bool false, .int .i64 0, .int .i64 0, .nilFunc])) (zp := []) rfl hkey
    have e := RV_inv hv
    rw [ek, hg] at e
    injection e with e
    rw [hr, e]
set_option maxRecDepth 100000 in
/-- … and what it misses -/
theorem ReadA.miss {w : World} {D : DataW Value} {f : Am} (h : ReadA w D f) {s : ByteArray} (hs : s.size ≤ maxLen) (hn : f s.data.toList = none) (W : World) (n M : Nat) (ho : W.ownsMap Tryz.prog 9 RV M n D) : (Instr.lookup 79 (.map (some M)) (.string s) true).run Tryz.prog W = .ok (.tuple #[.agg #[.string ⟨#[]⟩, .bool false, .int .i64 0, .int .i64 0, .nilFunc], .bool false]) W := by
  have hkey := keyS_of hs
  have hh : Maps.has D (keyS s) = false := by
    rw [show keyS s = .string s.data.toList from rfl, h.has, hn]; rfl
  obtain ⟨v, ps, hr, hv⟩ := ho.look_ok lawS Tryz.underlying79 (zeroC W) (zd := .held (.agg #[.string ⟨#[]⟩, .bool false, .int .i64 0, .int .i64 0, .nilFunc])) (zp := []) rfl hkey
  have e := RV_inv hv
  rw [atKey_of_not_has hh] at e
  injection e with e
  rw [hr, hh, e]

/-- 'm[k]' in a plain region, its run known -/
theorem wpList_lookup_is {P : Program} {w : World} {ops : Array Oper} {rest : List Oper} {o : Oper} {a : Act} {Q : Exit → Act → World → Prop} (hg : o.guard = none) (m x : Operand) (t : TypeId) (ok : Bool) (hop : o.op = Op.lookup t m x ok)
    (mv xv v : Value) (hm : a.eval m = mv) (hx : a.eval x = xv) (hrun : (Instr.lookup t mv xv ok).run P w = .ok v w) (hK : wpList P ops Q rest (a.put o.dst v) w) : wpList P ops Q (o :: rest) a w := by
  refine wpList_plain hg fun K' hK' => ?_
  unfold Oper.wp
  simp [execOp, hop, hm, hx, hrun, Result.andThen]
  exact hK' _ _ hK

def strE (x : List UInt8) : List Value := [Proofs.encStr x]
theorem flat1 {α : Type} (f : α → Value) (l : List α) : l.flatMap (fun x => [f x]) = l.map f := by
  induction l with
  | nil => rfl
  | cons x r ih => rw [List.flatMap_cons, ih]; rfl

set_option maxRecDepth 100000 in
set_option maxHeartbeats 4000000 in
theorem names_any (a M N : Nat) (f : Am) (w : World) (h : AmAt w a M f N) (hN : N ≤ 100000) :
    Calls Tryz.prog 43 #[.pointer (some ⟨a, 0, none⟩)] w fun e w' => (∃ A c ks, e = .returned (.slice A N c) ∧ SK f ks ∧ ks.length = N ∧ RowAt strE 1 w' w'.heap.size A ks ∧ ∀ q, A = some q → w.heap.size ≤ q.block) ∧ Below w.heap.size w w' := by
  obtain ⟨D, hown, hr, hz⟩ := h.own
  have BX := Lib.hid h.box
  have cB := cellH BX
  have HK := Lib.hid (fun mb W => callsIn_wide.1 (Tryz.maps_Keys_69 mb W))
  have HSO := Lib.hid (callsIn_wide.1 (Tryz.slices_Sorted_keys_40_69 M N D RV w hown (by rw [hz]; unfold maxLen; omega) (by rw [hz]; omega)))
  have HR := Lib.hid hr
  have HO := Lib.hid hown
  have hks := keys_size hown
  clear h hown hr
  go_enter Tryz.func43, Tryz.ntmps43
  go_wp2_with fail
  refine (HK.out _ _).mono ?_
  rintro e w1 ⟨rfl, rfl⟩
  go_wp2_with fail
  refine HSO.out.mono ?_
  rintro e w2 ⟨v, ss, rfl, hperm, hrow, _, hb2⟩
  have hw2 : Below w.heap.size w w2 := stepH (by (repeat' (first | with_reducible exact Below.refl _ _ | with_reducible assumption | with_reducible refine Below.drew ?_ | with_reducible refine below_drewN ?_ _ | with_reducible refine Below.setCell ?_ ?_ _ | with_reducible refine Below.alloc ?_ ?_ _ | omega | (simp; done) | (simp; omega)))) hb2
  have hlen : ss.length = N := by rw [hperm.length_eq, hks, hz]
  have hl2 : (ss.mergeSort leB).length = N := by rw [List.length_mergeSort, hlen]
  have HS := Lib.hid (RA_keys HO.out HR.out hperm)
  obtain ⟨A2, c2, rfl, hr2, _, hfar⟩ := own_line (l := ss.mergeSort leB) (enc := strE) (size := 1) (e := 9) (base := (w.alloc (.cells #[.map (some M)] 79)).heap.size) (w := w2) (v := v) (fun x _ => rfl) (by unfold Own strE; rw [hl2, flat1, ← hlen]; exact hrow)
  have HR2 := Lib.hid hr2
  have HF := Lib.hid hfar
  rw [hl2]
  clear hr2 hfar hrow hperm hb2 HK HSO cB
  go_wp2_with fail
  go_ret
  exact ⟨⟨A2, c2, _, rfl, HS.out, hl2, HR2.out, fun q hq => by have := HF.out q hq; simp at this; omega⟩, hw2⟩
end Go.Proofs.YtmoeoomlggjaaaaGreatDoor
