/- maps.Copy at amendments' maps: the walk. -/
import Derived.Test.YtmoeoomlggjaaaaGreatDoorAmJ
import Derived.Maps.RangeWalk
import Derived.OpenShut
namespace Go.Proofs.YtmoeoomlggjaaaaGreatDoor
open Go.RowKit Go.Maps

set_option maxRecDepth 100000 in
/-- the step of a range over an amendment's map -/
theorem wpList_next_am {w w0 : World} {ops : Array Oper} {rest : List Oper} {o : Oper} {a : Act} {Q : Exit → Act → World → Prop} (hg : o.guard = none) (it : Operand) (hop : o.op = Op.next it false) (M r n : Nat) (D : DataW Value) (left : Lit → Bool) (cnt : Nat) (f : Am)
    (hit : a.eval it = .pointer (some ⟨r, 0, none⟩)) (h : w.ranges Tryz.prog 9 RV M r n D left cnt) (hr : ReadA w0 D f)
    (hDone : (∀ kl, left kl = false) → wpList Tryz.prog ops Q rest (a.put o.dst (.tuple #[.bool false])) w)
    (hMore : ∀ (c : Ch) (g : Nat) (w' : World) (cnt' : Nat), f (nmb c) = some c → c.name.size ≤ maxLen → BoxC w0 g c → left (keyS c.name) = true → w'.ranges Tryz.prog 9 RV M r n D (fun z => left z && !z.sameKey (keyS c.name)) cnt' → cnt' < cnt →
      w.grownBy w' (some r) → w'.heap.size = w.heap.size → (Instr.entry (.pointer (some ⟨r, 0, none⟩))).run Tryz.prog w' = .ok (.tuple #[.string c.name, enV c g]) w' → wpList Tryz.prog ops Q rest (a.put o.dst (.tuple #[.bool true, .string c.name, enV c g])) w') :
    wpList Tryz.prog ops Q (o :: rest) a w := by
  refine wpList_plain hg fun K' hK' => ?_
  unfold Oper.wp
  rcases h.next lawS o.type with ⟨h0, hl, hrun⟩ | ⟨key, v, kl, y, w', cnt', hkey, hlk, hv, hat, hrun, hrg, hlt, hgr, hsz, hen⟩
  · simp [execOp, hop, hit, hrun, Result.andThen]
    exact hK' _ _ (hDone hl)
  · obtain ⟨x, rfl, rfl, hx⟩ := Maps.keyOf_str Tryz.underlying9 hkey
    obtain ⟨c, hc⟩ := Option.isSome_iff_exists.1 ((hr.has x).symm.trans (has_true_of_atKey hat))
    obtain ⟨hcx, hcs, g, h1, h2⟩ := hr.at' x c hc
    have e : y.1 = .held v := by unfold RV at hv; injection hv with hv; rw [← hv]
    have e2 : y.1 = .held (enV c g) := (hat (.held .nilFunc)).symm.trans (h1 _)
    rw [e] at e2
    injection e2 with e2
    subst e2
    have e3 : Proofs.encStr x = .string c.name := by rw [← hcx]; simp [Proofs.encStr, nmb]
    have e4 : Lit.string x = keyS c.name := by rw [← hcx]; rfl
    rw [e3] at hrun hen
    rw [e4] at hlk hrg
    simp [execOp, hop, hit, hrun, Result.andThen]
    exact hK' _ _ (hMore c g w' cnt' (by rw [hcx]; exact hc) hcs h2 hlk hrg hlt hgr hsz hen)

/-- f, and over it what of g has been copied -/
def overL (f g : Am) (left : Lit → Bool) : Am := fun x => if (g x).isSome = true ∧ left (.string x) = false then g x else f x
/-- f, and g over it -/
def over (f g : Am) : Am := fun x => if (g x).isSome = true then g x else f x
theorem overL_start {w : World} {D : DataW Value} {f g : Am} (h : ReadA w D g) : overL f g (Maps.has D) = f := by
  funext x
  unfold overL
  split
  · rename_i q; rw [h.has x, q.1] at q; simp at q
  · rfl
theorem overL_done {f g : Am} {left : Lit → Bool} (h : ∀ z, left z = false) : overL f g left = over f g := by
  funext x; unfold overL over; simp [h]
theorem overL_step {f g : Am} {left : Lit → Bool} {c : Ch} (hc : g (nmb c) = some c) : putA (overL f g left) c = overL f g (fun z => left z && !z.sameKey (keyS c.name)) := by
  funext x
  unfold putA overL
  by_cases e : x = nmb c
  · subst e
    rw [if_pos rfl, hc]
    simp [keyS, nmb, Lit.sameKey]
  · rw [if_neg e]
    have : (Lit.string x).sameKey (keyS c.name) = false := by
      unfold keyS Lit.sameKey
      simp
      exact e
    simp [this]
theorem only_grow {L : List Nat} {w u u' : World} {r : Nat} (h : OnlyL L w u) (hg : u.grownBy u' (some r)) (hr : w.heap.size ≤ r) : OnlyL L w u' :=
  ⟨hg.os.trans h.os, hg.tape.trans h.tape, hg.output.trans h.output, Nat.le_trans h.size hg.size, fun k hk hn => (hg.block k (Nat.lt_of_lt_of_le hk h.size) (fun e => by injection e with e; omega)).trans (h.block k hk hn)⟩

set_option maxRecDepth 100000 in
set_option maxHeartbeats 2000000 in
theorem copyM_any (M1 M2 n1 n2 : Nat) (D1 D2 : DataW Value) (f g : Am) (w : World) (h1 : w.ownsMap Tryz.prog 9 RV M1 n1 D1) (r1 : ReadA w D1 f) (h2 : w.ownsMap Tryz.prog 9 RV M2 n2 D2) (r2 : ReadA w D2 g) (hz : Maps.size D2 = n2) (hne : M1 ≠ M2) (hn : n1 + n2 ≤ 100000) :
    Calls Tryz.prog 56 #[.map (some M1), .map (some M2)] w fun e w' => e = .returned (.tuple #[]) ∧ (∃ n D, w'.ownsMap Tryz.prog 9 RV M1 n D ∧ ReadA w' D (over f g) ∧ n ≤ n1 + n2) ∧ OnlyL [M1] w w' := by
  have hsf : ∀ (a : Addr) (fn : Fn) (x y : Array Value) (w : World), (store a (.func fn x y)).run Tryz.prog w = stored Tryz.prog w a (.func fn x y) .plain := fun a fn x y w => run_store _ w a _ _ rfl
  have H1 := Lib.hid h1
  have R1 := Lib.hid r1
  have H2 := Lib.hid h2
  have R2 := Lib.hid r2
  have HM := own_isMap h1
  have l1 := h1.lt
  have l2 := h2.lt
  clear h1 r1 h2 r2
  go_enter Tryz.func56, Tryz.ntmps56
  go_wp2_with (at_range; refine wpList_range_own _ rfl _ 79 rfl 9 77 lawS Tryz.underlying79 RV M2 n2 D2 rfl H2.out ?_; intro w1 hrg1 hg1 hs1)
  have HRG1 := Lib.hid hrg1
  have HO1 := Lib.hid (H1.out.kept hg1 (by simp))
  have HB1 : Hid (OnlyL [M1] w w1) := Lib.hid ⟨hg1.os, hg1.tape, hg1.output, hg1.size, fun k hk _ => hg1.block k hk (by simp)⟩
  clear hrg1 hg1
  go_frame
  go_loopw [8] (fun _ wr => ∃ (left : Lit → Bool) (cnt n' : Nat), Hid (wr.ranges Tryz.prog 9 RV M2 w.heap.size n2 D2 left cnt) ∧ Hid (∃ D, wr.ownsMap Tryz.prog 9 RV M1 n' D ∧ ReadA w D (overL f g left)) ∧ n' + cnt ≤ n1 + n2 ∧ OnlyL [M1] w wr) (fun _ wr => wr.rangeLeft M2 w.heap.size)
  case atStart => exact ⟨_, _, n1, HRG1, Lib.hid ⟨D1, HO1.out, by rw [overL_start R2.out]; exact R1.out⟩, by omega, HB1.out⟩
  case round =>
    clear HRG1 HO1 HB1
    obtain ⟨left, cnt, n', HRG, HD, hcn, hb⟩ := hrel
    have zr := hb.size
    go_wp2_with (at_next; refine wpList_next_am (w0 := w) rfl _ rfl M2 _ n2 D2 left cnt g rfl HRG.out R2.out ?_ ?_)
    · intro hl
      have HF : Hid (∃ n D, wr.ownsMap Tryz.prog 9 RV M1 n D ∧ ReadA wr D (over f g) ∧ n ≤ n1 + n2) := Lib.hid (by
        obtain ⟨D, h1, h2⟩ := HD.out
        rw [overL_done hl] at h2
        exact ⟨n', D, h1, h2.only hb HM, by omega⟩)
      clear hl HD HRG
      go_wp2_with fail
      exact bodyPost_end (v := .tuple #[]) (by simp [results, Tryz.results56, go_sem]) rfl ⟨rfl, HF.out, hb⟩
    · intro c gb w2 cnt2 hc hcs hbx hlk hrg2 hlt hg2 hs2 hen
      obtain ⟨D, hD1, hD2⟩ := HD.out
      have HRG2 := Lib.hid hrg2
      have HK2 := Lib.hid (hD1.kept hg2 (fun e => by injection e with e; omega))
      have hb2 := only_grow hb hg2 (Nat.le_refl _)
      have HP : Hid (ReadA w (D.put (keyS c.name) (.held (enV c gb))) (overL f g (fun z => left z && !z.sameKey (keyS c.name)))) := Lib.hid (by rw [← overL_step hc]; exact hD2.put hcs hbx)
      have hkey := keyS_of hcs
      clear hrg2 hg2 hc hbx hlk hD1 hD2 HD
      unfold enV at *
      go_wp2_with (at_mapUpdate; refine wpList_mapUpdate_own _ rfl _ _ _ 79 rfl 9 77 lawS Tryz.underlying79 RV M1 n' D rfl (HK2.out.alloc _) (by unfold maxLen; omega) _ _ (keyS c.name) rfl rfl hkey (.held (.agg #[.string c.name, .bool c.clear, .int .i64 c.n, .int .i64 c.d, .func (.func (doF c)) #[] #[.pointer (some ⟨gb, 0, none⟩)]])) [] rfl ?_; intro w5 hown5 hg5)
      have e0 : (w2.alloc (.cells #[.string c.name, .bool c.clear, .int .i64 c.n, .int .i64 c.d, .func (.func (doF c)) #[] #[.pointer (some ⟨gb, 0, none⟩)]] 77)).heap.size = wr.heap.size + 1 := by simp [hs2]
      have hrg5 := (HRG2.out.alloc (.cells #[.string c.name, .bool c.clear, .int .i64 c.n, .int .i64 c.d, .func (.func (doF c)) #[] #[.pointer (some ⟨gb, 0, none⟩)]] 77)).kept hg5 (fun e => by injection e with e; omega) (fun e => by injection e with e; omega)
      have hb5 : OnlyL [M1] w w5 := hb2.trans ((only_step (by (repeat' (first | with_reducible exact Below.refl _ _ | with_reducible assumption | with_reducible refine Below.drew ?_ | with_reducible refine below_drewN ?_ _ | with_reducible refine Below.setCell ?_ ?_ _ | with_reducible refine Below.alloc ?_ ?_ _ | omega | (simp; done) | (simp; omega))))).trans (only_turn hg5))
      go_roundw
      case rel =>
        (repeat apply Exists.intro)
        refine And.intro ?_ rfl
        exact ⟨_, cnt2, n' + 1, Lib.hid hrg5, Lib.hid ⟨_, hown5, HP.out⟩, by omega, hb5⟩
      case measure =>
        have e1 := hrg5.left_eq
        have e2 := HRG.out.left_eq
        rw [e1, e2]; exact hlt
end Go.Proofs.YtmoeoomlggjaaaaGreatDoor
