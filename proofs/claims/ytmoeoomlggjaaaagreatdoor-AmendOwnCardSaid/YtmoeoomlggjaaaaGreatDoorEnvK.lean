/- From the row's list of variables to the walks' environment; and a law's last step, whatever its arguments. -/
import Derived.Test.YtmoeoomlggjaaaaGreatDoorKit
import Derived.Test.YtmoeoomlggjaaaaGreatDoorCards
import Derived.Test.YtmoeoomlggjaaaaGreatDoorTie
import Derived.WalkKit
import Derived.ProofKit
import Derived.LaidMore
import Derived.OpenShut
import Derived.Stop.Joined
import Derived.Stop.LaidErr
import Derived.Lib.SmallJoins
import Derived.SevenTiedAt
namespace Go.Proofs.YtmoeoomlggjaaaaGreatDoor
open Go.ChangeShapes Go.WideShapes Go.ChangeAt Go.RowKit

theorem i64_bounds {n : Int} (h : (Lit.int .i64 n).wf = true) : -9223372036854775808 ≤ n ∧ n ≤ 9223372036854775807 := by
  simpa [Lit.wf, IntKind.min, IntKind.max, IntKind.signed, IntKind.bits] using h

def errD (text : List UInt8) : DataW Unit := .iface "*errors.errorString" (.ptr (.agg [.lit (.string text)]))

theorem cells80 : Tryz.prog.cellsOf 202 = 1 := by kernel_rfl
theorem cells9 : Tryz.prog.cellsOf 9 = 1 := by kernel_rfl
theorem star : "*" ++ "errors.errorString" = "*errors.errorString" := by decide
theorem row62 (u : TypeId) (h : Tryz.prog.typeName? 3 u = some "*errors.errorString") : u = 184 :=
  typeName_ptr_named (nm := "errors.errorString") (by rw [star]; kernel_rfl) (by kernel_rfl) (by decide) u (by rw [star]; exact h)

/-- what one listed sentinel gives, and where it lies among the places -/
def Told (W : World) (ps : List MemPlace) (g : Nat) (a : Addr) : Prop :=
  W.cell? ⟨g, 0, none⟩ = some (.iface 184 (.pointer (some a))) ∧ MemPlace.cell g 0 ∈ ps ∧ MemPlace.cell a.block a.off ∈ ps

set_option maxRecDepth 100000 in
theorem told_all {W : World} (laid : List (String × DataW Unit)) (ps : List MemPlace) (hl : DataW.LaidVars Tryz.prog W laid ps) (hnd : ps.Nodup)
    (hrows : ∀ b off, MemPlace.cell b off ∈ ps → (∃ c t, W.heap[b]? = some (.cells c t (0, 0))) ∧ ∀ u v, W.cell? ⟨b, off, none⟩ = some (.iface u v) → Value.okWide Tryz.prog W .any 0 u v)
    (ht : ∀ n s, (n, errD s) ∈ laid → ∀ g, Tryz.prog.globalNamed n = some g → (Tryz.prog.globals[g]?).map (·.type) = some 26) :
    ∃ E : Nat → Addr, (∀ n s, (n, errD s) ∈ laid → ∀ g, Tryz.prog.globalNamed n = some g → Told W ps g (E g)) ∧
      ∀ n s n' s', (n, errD s) ∈ laid → (n', errD s') ∈ laid → ∀ g g', Tryz.prog.globalNamed n = some g → Tryz.prog.globalNamed n' = some g' → E g = E g' → g = g' := by
  induction laid generalizing ps with
  | nil => exact ⟨fun _ => default, fun _ _ h => by simp at h, fun _ _ _ _ h => by simp at h⟩
  | cons x r ih =>
    obtain ⟨n0, d0⟩ := x
    obtain ⟨g0, t0, cs0, f0, p, q, hg0, ht0, hv0, hd0, hq, rfl⟩ := hl
    have hnq : q.Nodup := List.Nodup.sublist (List.sublist_append_right _ _) hnd
    obtain ⟨E', A, B⟩ := ih q hq hnq (fun b off hm => hrows b off (List.mem_append_right _ hm)) (fun n s hm => ht n s (List.mem_cons_of_mem _ hm))
    have hdis : ∀ y, y ∈ MemPlace.row ⟨g0, 0, none⟩ cs0.size ++ p → y ∈ q → False := fun y h1 h2 => (List.nodup_append.1 hnd).2.2 y h1 y h2 rfl
    have mono : ∀ g a, Told W q g a → Told W (MemPlace.row ⟨g0, 0, none⟩ cs0.size ++ p ++ q) g a := fun g a ⟨h1, h2, h3⟩ => ⟨h1, List.mem_append_right _ h2, List.mem_append_right _ h3⟩
    by_cases h : ∃ s, d0 = errD s
    · obtain ⟨s0, rfl⟩ := h
      have ht38 := ht n0 s0 (List.mem_cons_self ..) g0 hg0
      obtain rfl := Option.some.inj (ht38.symm.trans ht0)
      obtain ⟨l0⟩ := cs0
      have hc1 : W.cell? ⟨g0, 0, none⟩ = l0[0]? := by simpa using World.var?_cell hg0 hv0 0
      have ok0 : ∀ u v, l0 = [.iface u v] → Value.okWide Tryz.prog W .any 0 u v := fun u v e => by
        subst e
        exact (hrows g0 0 (by simp [MemPlace.row])).2 u v (by simpa using hc1)
      obtain ⟨a, s, rfl, _, _, _, rfl⟩ := errorString_of_trod Tryz.underlying26 row62 Tryz.underlying184 Tryz.underlying202 rfl rfl Tryz.underlying9 cells80 cells9 hd0 ok0
      have m1 : MemPlace.cell g0 0 ∈ MemPlace.row ⟨g0, 0, none⟩ (Array.mk [Value.iface 184 (.pointer (some a))]).size ++ MemPlace.row a 1 := by simp [MemPlace.row]
      have m2 : MemPlace.cell a.block a.off ∈ MemPlace.row ⟨g0, 0, none⟩ (Array.mk [Value.iface 184 (.pointer (some a))]).size ++ MemPlace.row a 1 := by simp [MemPlace.row]
      have far : ∀ n s, (n, errD s) ∈ r → ∀ g, Tryz.prog.globalNamed n = some g → g ≠ g0 := fun n s hm g hg e => by
        subst e
        exact hdis _ m1 (A n s hm _ hg).2.1
      refine ⟨fun k => if k = g0 then a else E' k, fun n s hm g hg => ?_, fun n s n' s' hm hm' g g' hg hg' he => ?_⟩
      · rcases List.mem_cons.1 hm with e | hm
        · have e1 := (Prod.mk.inj e).1
          subst e1
          obtain rfl := Option.some.inj (hg0.symm.trans hg)
          simp only [if_true]
          exact ⟨by simpa using hc1, List.mem_append_left _ m1, List.mem_append_left _ m2⟩
        · simp only [if_neg (far n s hm g hg)]
          exact mono _ _ (A n s hm g hg)
      · have one : ∀ n s, (n, errD s) ∈ (n0, errD s0) :: r → ∀ g, Tryz.prog.globalNamed n = some g → g = g0 ∨ (g ≠ g0 ∧ (n, errD s) ∈ r) := fun n s hm g hg => by
          rcases List.mem_cons.1 hm with e | hm
          · have e1 := (Prod.mk.inj e).1
            subst e1
            exact .inl (Option.some.inj (hg.symm.trans hg0))
          · exact .inr ⟨far n s hm g hg, hm⟩
        rcases one n s hm g hg with rfl | ⟨h1, hm1⟩ <;> rcases one n' s' hm' g' hg' with h2 | ⟨h2, hm2⟩
        · exact h2.symm
        · simp only [if_true, if_neg h2] at he
          subst he
          exact (hdis _ m2 (A n' s' hm2 g' hg').2.2).elim
        · subst h2
          simp only [if_true, if_neg h1] at he
          subst he
          exact (hdis _ m2 (A n s hm1 g hg).2.2).elim
        · simp only [if_neg h1, if_neg h2] at he
          exact B n s n' s' hm1 hm2 g g' hg hg' he
    · refine ⟨E', fun n s hm g hg => ?_, fun n s n' s' hm hm' g g' hg hg' he => ?_⟩
      · rcases List.mem_cons.1 hm with e | hm
        · exact absurd ⟨s, (Prod.mk.inj e).2.symm⟩ h
        · exact mono _ _ (A n s hm g hg)
      · rcases List.mem_cons.1 hm with e | hm
        · exact absurd ⟨s, (Prod.mk.inj e).2.symm⟩ h
        · rcases List.mem_cons.1 hm' with e | hm'
          · exact absurd ⟨s', (Prod.mk.inj e).2.symm⟩ h
          · exact B n s n' s' hm hm' g g' hg hg' he

/-- THE ENVIRONMENT, out of what the row lists: L the numbers of the variables, each with its name and its text on the list -/
theorem env_of_laid {W : World} {laid : List (String × DataW Unit)} {L : List (Nat × String × List UInt8)} (h : laidMet Tryz.prog laid W)
    (ht : ∀ n s, (n, errD s) ∈ laid → ∀ g, Tryz.prog.globalNamed n = some g → (Tryz.prog.globals[g]?).map (·.type) = some 26)
    (hL : ∀ x ∈ L, Tryz.prog.globalNamed x.2.1 = some x.1 ∧ (x.2.1, errD x.2.2) ∈ laid) : ∃ E, Env (L.map (·.1)) E W := by
  obtain ⟨ps, hl, hnd, hrows⟩ := h
  obtain ⟨E, A, B⟩ := told_all laid ps hl hnd hrows ht
  refine ⟨E, ⟨fun g hg => ?_, fun g hg k hk e => ?_⟩⟩
  · obtain ⟨x, hx, rfl⟩ := List.mem_map.1 hg
    obtain ⟨h1, h2⟩ := hL x hx
    obtain ⟨a1, a2, a3⟩ := A _ _ h2 _ h1
    obtain ⟨c, t, hb⟩ := (hrows _ _ a3).1
    refine ⟨a1, ?_, ?_, c, t, hb⟩
    · rcases Nat.lt_or_ge x.1 W.heap.size with hlt | hge
      · exact hlt
      · simp [World.cell?, Array.getElem?_eq_none hge] at a1
    · rcases Nat.lt_or_ge (E x.1).block W.heap.size with hlt | hge
      · exact hlt
      · simp [Array.getElem?_eq_none hge] at hb
  · obtain ⟨x, hx, rfl⟩ := List.mem_map.1 hg
    obtain ⟨y, hy, rfl⟩ := List.mem_map.1 hk
    obtain ⟨h1, h2⟩ := hL x hx
    obtain ⟨h3, h4⟩ := hL y hy
    exact B _ _ _ _ h2 h4 _ _ h1 h3 e

section
variable {H : Type} {enc : TypeId × Value → H} {P : Program}
/-- the arguments read as they did -/
theorem trodAll_stays (hl : laidOutB P = true) {W W' : World} {sp : Nat → Bool} (ts : List TypeId) (hts : ∀ t ∈ ts, P.readableRec t = true ∧ t < P.types.size) :
    ∀ (vs : List Value) (ds : List (DataW H)) (ps : List MemPlace), DataW.TrodAll enc P W 0 (fun _ => true) true ts vs ds ps → (∀ p ∈ ps, W.sameAt W' p) → (∀ p ∈ ps, sp p.block = true) →
      DataW.TrodAll enc P W' 0 sp true ts vs ds ps := by
  induction ts with
  | nil => intro vs ds ps h _ _; cases vs <;> cases ds <;> simp [DataW.TrodAll] at h ⊢; exact h
  | cons t ts ih =>
    intro vs ds ps h hs hp
    obtain ⟨v, vs', d, ds', p, q, rfl, rfl, rfl, h1, h2⟩ := trodAll_cons h
    obtain ⟨r1, r2⟩ := hts t (List.mem_cons_self ..)
    exact trodAll_cons_mk (WideElems.Trod_stays hl r1 r2 h1 (fun x hx => hs x (List.mem_append_left _ hx)) (fun x hx => hp x (List.mem_append_left _ hx)))
      (ih (fun t ht => hts t (List.mem_cons_of_mem _ ht)) vs' ds' q h2 (fun x hx => hs x (List.mem_append_right _ hx)) (fun x hx => hp x (List.mem_append_right _ hx)))

/-- A LAW's LAST STEP: it has answered true, and of what was there nothing has turned. -/
theorem law_post {f : Func} {s : ChangeSpec} {apart fresh handsOn again : Bool} {W W' : World} {args : Array Value} {ds gs : List (DataW H)} {before : List MemPlace} {tb : TypeId}
    (hW : DataW.Whole enc P f.params.toList s.vars apart W args.toList ds gs before) (hvs : s.vars = []) (hfn : s.fn H (ds ++ gs) = { results := [.lit (.bool true)], args := ds })
    (hl : laidOutB P = true) (hts : ∀ t ∈ f.params.toList, P.readableRec t = true ∧ t < P.types.size)
    (hr : f.resultTypes = #[tb]) (htb : P.underlying tb = some .bool) (hb : Below W.heap.size W W') :
    s.post enc P f apart fresh handsOn again W args (.bool true) W' := by
  have hlt : ∀ p ∈ before, p.block < W.heap.size := fun p hp => hW.lt p hp
  have hold : ∀ p ∈ before, (fun b => decide (b < W.heap.size)) p.block = true := fun p hp => by simpa using hlt p hp
  have hW0 := hW
  obtain ⟨p, q, hA, hV, rfl, hfz, hnd⟩ := hW
  have hq : q = [] ∧ gs = [] := by
    rw [hvs] at hV
    cases gs with
    | nil => exact ⟨hV, rfl⟩
    | cons g r => exact absurd hV (by intro h; cases h)
  obtain ⟨rfl, rfl⟩ := hq
  have hres : ∀ (b : Nat) (sp : Nat → Bool) (hd : Bool), DataW.TrodAll enc P W' b sp hd f.resultTypes.toList ((Value.bool true).resultList f.resultTypes.size) (s.fn H (ds ++ [])).results [] := fun b sp hd => by
    rw [hfn, hr]
    exact trodAll_mk1 (shut_bool htb true)
  have hargs : ∀ sp : Nat → Bool, (∀ x ∈ p, sp x.block = true) → DataW.TrodAll enc P W' 0 sp true f.params.toList args.toList (s.fn H (ds ++ [])).args p := fun sp hsp => by
    rw [hfn]
    exact trodAll_stays hl _ hts _ _ _ hA (fun x hx => hb.same (hlt x (by simpa using hx))) hsp
  have hvars : ∀ sp : Nat → Bool, DataW.TrodVars enc P W' sp s.vars (s.fn H (ds ++ [])).vars [] := fun sp => by rw [hfn, hvs]; rfl
  refine ⟨ds, [], p ++ [], [], p, [], hW0, hres _ _ _, hargs _ (fun x hx => hold x (by simpa using hx)), hvars _, World.keptBut_mono (fun x hx => ⟨hx, ?_⟩) (hb.frame (· ∈ p ++ [])), fun _ => ?_⟩
  · exact Or.inr (by simpa using hx)
  · refine ⟨ok_one hr rfl (okWide_bool_mk htb true), _, _, ([] ++ p) ++ [], ⟨[] ++ p, [], trodAll_append (hargs _ (fun _ _ => rfl)) (hres _ _ _), hvars _, rfl, ?_, ?_⟩, ?_⟩
    · intro b off hp
      have hin : MemPlace.cell b off ∈ p ++ [] := by simpa using hp
      rw [hb.frozen (hlt _ hin)]
      exact hfz b off hin
    · intro ha
      simpa using hnd ha
    · intro x hp _
      simpa using hp
end
end Go.Proofs.YtmoeoomlggjaaaaGreatDoor
