/- None, few, made, what a change does: walks. -/
import Derived.Test.YtmoeoomlggjaaaaGreatDoorAmB
namespace Go.Proofs.YtmoeoomlggjaaaaGreatDoor
open Go.RowKit Go.Maps

set_option maxRecDepth 100000 in
set_option maxHeartbeats 4000000 in
theorem made_any (c : Ch) (w : World) : Calls Tryz.prog 38 #[chV c] w fun e w' => (∃ g, e = .returned (enV c g) ∧ BoxC w' g c ∧ w.heap.size ≤ g) ∧ Below w.heap.size w w' := by
  have hmf : ∀ (fn : Fn) (first cap : Array Value) (w : World), (Instr.makeFunc fn first cap).run Tryz.prog w = .ok (.func fn first cap) w := fun _ _ _ _ => rfl
  have hsf : ∀ (a : Addr) (fn : Fn) (x y : Array Value) (w : World), (store a (.func fn x y)).run Tryz.prog w = stored Tryz.prog w a (.func fn x y) .plain := fun a fn x y w => run_store _ w a _ _ rfl
  obtain ⟨name, cl, n, d⟩ := c
  unfold chV enV BoxC doF
  dsimp only
  cases cl with
  | true =>
    go_enter Tryz.func38, Tryz.ntmps38
    go_wp2_with fail
    have Q := Lib.hid (blk_old (o := .cells #[.string name, .bool true, .int .i64 n, .int .i64 d, .func (.func 64) #[] #[.pointer (some ⟨w.heap.size, 0, none⟩)]] 77) (blk_new (w := w) (o := (.cells #[.string name, .bool true, .int .i64 n, .int .i64 d] 41)) rfl))
    have R := Lib.hid (blk_new (w := w.alloc (.cells #[.string name, .bool true, .int .i64 n, .int .i64 d] 41)) (o := .cells #[.string name, .bool true, .int .i64 n, .int .i64 d, .func (.func 64) #[] #[.pointer (some ⟨w.heap.size, 0, none⟩)]] 77) (n := w.heap.size + 1) (by simp))
    have cR := cellH R
    exact bodyPost_ret (v := .agg #[.string name, .bool true, .int .i64 n, .int .i64 d, .func (.func 64) #[] #[.pointer (some ⟨w.heap.size, 0, none⟩)]]) (by simp [results, Tryz.results38, go_sem, cR]) rfl ⟨⟨w.heap.size, rfl, Q.out, Nat.le_refl _⟩, by (repeat' (first | with_reducible exact Below.refl _ _ | with_reducible assumption | with_reducible refine Below.drew ?_ | with_reducible refine below_drewN ?_ _ | with_reducible refine Below.setCell ?_ ?_ _ | with_reducible refine Below.alloc ?_ ?_ _ | omega | (simp; done) | (simp; omega)))⟩
  | false =>
    go_enter Tryz.func38, Tryz.ntmps38
    go_wp2_with fail
    have Q := Lib.hid (blk_old (o := .cells #[.string name, .bool false, .int .i64 n, .int .i64 d, .func (.func 65) #[] #[.pointer (some ⟨w.heap.size, 0, none⟩)]] 77) (blk_new (w := w) (o := (.cells #[.string name, .bool false, .int .i64 n, .int .i64 d] 41)) rfl))
    have R := Lib.hid (blk_new (w := w.alloc (.cells #[.string name, .bool false, .int .i64 n, .int .i64 d] 41)) (o := .cells #[.string name, .bool false, .int .i64 n, .int .i64 d, .func (.func 65) #[] #[.pointer (some ⟨w.heap.size, 0, none⟩)]] 77) (n := w.heap.size + 1) (by simp))
    have cR := cellH R
    exact bodyPost_ret (v := .agg #[.string name, .bool false, .int .i64 n, .int .i64 d, .func (.func 65) #[] #[.pointer (some ⟨w.heap.size, 0, none⟩)]]) (by simp [results, Tryz.results38, go_sem, cR]) rfl ⟨⟨w.heap.size, rfl, Q.out, Nat.le_refl _⟩, by (repeat' (first | with_reducible exact Below.refl _ _ | with_reducible assumption | with_reducible refine Below.drew ?_ | with_reducible refine below_drewN ?_ _ | with_reducible refine Below.setCell ?_ ?_ _ | with_reducible refine Below.alloc ?_ ?_ _ | omega | (simp; done) | (simp; omega)))⟩

/-- a state of inputs, as a function of the names -/
abbrev St := List UInt8 → Option (Int × Int)
def frI (v : Int × Int) : Value := .agg #[.int .i64 v.1, .int .i64 v.2]
structure ReadF (D : DataW Value) (f : St) : Prop where
  isMap : IsMap D
  has : ∀ x, Maps.has D (.string x) = (f x).isSome
  at' : ∀ x v, f x = some v → ∀ z, D.atKey (.string x) z = .held (frI v)
/-- a change done -/
def doC (c : Ch) (f : St) : St := fun x => if x = nmb c then (if c.clear = true then none else some (c.n, c.d)) else f x
theorem ReadF.nil : ReadF (.map []) (fun _ => none) := ⟨isMap_empty, fun x => by rw [has_eq]; rfl, fun x v h => by cases h⟩
theorem ReadF.set {D : DataW Value} {f : St} (h : ReadF D f) (name : ByteArray) (v : Int × Int) : ReadF (D.put (keyS name) (.held (frI v))) (fun x => if x = name.data.toList then some v else f x) where
  isMap := h.isMap.put _ _
  has x := by
    by_cases e : x = name.data.toList
    · subst e; rw [if_pos rfl]; exact has_put_same h.isMap (strL_lit _) _
    · rw [if_neg e, has_put_other (show (Lit.string x) ≠ keyS name from fun q => e (by unfold keyS at q; injection q))]; exact h.has x
  at' x u hu z := by
    by_cases e : x = name.data.toList
    · subst e
      rw [if_pos rfl] at hu
      injection hu with hu; subst hu
      exact atKey_put_same h.isMap (strL_lit _) _ z
    · rw [if_neg e] at hu
      rw [atKey_put_other (show (Lit.string x) ≠ keyS name from fun q => e (by unfold keyS at q; injection q))]; exact h.at' x u hu z
theorem ReadF.del {D : DataW Value} {f : St} (h : ReadF D f) (name : ByteArray) : ReadF (D.del (keyS name)) (fun x => if x = name.data.toList then none else f x) where
  isMap := h.isMap.del _
  has x := by
    by_cases e : x = name.data.toList
    · subst e; rw [if_pos rfl]; exact has_del_same
    · rw [if_neg e, has_del_other (show (Lit.string x) ≠ keyS name from fun q => e (by unfold keyS at q; injection q))]; exact h.has x
  at' x u hu z := by
    by_cases e : x = name.data.toList
    · subst e; rw [if_pos rfl] at hu; cases hu
    · rw [if_neg e] at hu
      rw [atKey_del_other (show (Lit.string x) ≠ keyS name from fun q => e (by unfold keyS at q; injection q))]; exact h.at' x u hu z

set_option maxRecDepth 100000 in
set_option maxHeartbeats 4000000 in
theorem do1_any (c : Ch) (g M n : Nat) (D : DataW Value) (w : World) (hb : BoxC w g c) (hn : c.name.size ≤ maxLen) (ho : w.ownsMap Tryz.prog 9 RV M n D) :
    Calls Tryz.prog 64 #[.map (some M), .pointer (some ⟨g, 0, none⟩)] w fun e w' => e = .returned (.tuple #[]) ∧ w'.ownsMap Tryz.prog 9 RV M n (D.del (keyS c.name)) ∧ w.grownBy w' (some M) := by
  have hkey := keyS_of hn
  have cB := cellH (Lib.hid hb)
  go_enter Tryz.func64, Tryz.ntmps64
  go_wp2_with (at_delete; refine wpList_delete_own _ rfl _ _ 83 9 rfl 39 lawS Tryz.underlying83 _ M n D rfl ho _ _ rfl hkey ?_; intro w1 hown1 hturn1)
  go_end0
  exact ⟨rfl, hown1, hturn1.grown⟩

set_option maxRecDepth 100000 in
set_option maxHeartbeats 4000000 in
theorem do2_any (c : Ch) (g M n : Nat) (D : DataW Value) (w : World) (hb : BoxC w g c) (hn : c.name.size ≤ maxLen) (ho : w.ownsMap Tryz.prog 9 RV M n D) (hN : n < maxLen) :
    Calls Tryz.prog 65 #[.map (some M), .pointer (some ⟨g, 0, none⟩)] w fun e w' => e = .returned (.tuple #[]) ∧ w'.ownsMap Tryz.prog 9 RV M (n + 1) (D.put (keyS c.name) (.held (frI (c.n, c.d)))) ∧ w.grownBy w' (some M) := by
  have hkey := keyS_of hn
  have cB := cellH (Lib.hid hb)
  go_enter Tryz.func65, Tryz.ntmps65
  go_wp2_with (at_mapUpdate; refine wpList_mapUpdate_own _ rfl _ _ _ 83 rfl 9 39 lawS Tryz.underlying83 _ M n D rfl ho hN _ _ _ rfl rfl hkey (.held (frI (c.n, c.d))) [] rfl ?_; intro w1 hown1 hg1)
  go_end0
  exact ⟨rfl, hown1, hg1⟩

theorem do_any (c : Ch) (g M n : Nat) (D : DataW Value) (f : St) (w : World) (hb : BoxC w g c) (hn : c.name.size ≤ maxLen) (ho : w.ownsMap Tryz.prog 9 RV M n D) (hf : ReadF D f) (hN : n < maxLen) :
    Calls Tryz.prog (doF c) #[.map (some M), .pointer (some ⟨g, 0, none⟩)] w fun e w' => e = .returned (.tuple #[]) ∧ (∃ D', w'.ownsMap Tryz.prog 9 RV M (n + 1) D' ∧ ReadF D' (doC c f)) ∧ w.grownBy w' (some M) := by
  unfold doF doC
  cases hc : c.clear with
  | true =>
    exact (do1_any c g M n D w hb hn ho).mono fun e w' q => ⟨q.1, ⟨_, q.2.1.mono (by omega), hf.del c.name⟩, q.2.2⟩
  | false =>
    exact (do2_any c g M n D w hb hn ho hN).mono fun e w' q => ⟨q.1, ⟨_, q.2.1, hf.set c.name (c.n, c.d)⟩, q.2.2⟩
end Go.Proofs.YtmoeoomlggjaaaaGreatDoor
