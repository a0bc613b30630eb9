/- The law AmendOwn: for every input it returns true, and each argument reads afterwards as before. -/
import Derived.Test.YtmoeoomlggjaaaaGreatDoorBootDoor
import Derived.Test.YtmoeoomlggjaaaaGreatDoorBoC
import Derived.Test.YtmoeoomlggjaaaaGreatDoorAnO
import Derived.Test.YtmoeoomlggjaaaaGreatDoorBoV
namespace Go.Proofs.YtmoeoomlggjaaaaGreatDoor.lawAmendOwn
open Go.ChangeShapes Go.WideShapes Go.ChangeAt Go.RowKit Go.Joins

theorem own : ownKnob Tryz.prog.godebug = none := by kernel_rfl
theorem laidOut : laidOutB Tryz.prog = true := by kernel_rfl
def isErr : DataW Unit → Bool
  | .iface t (.ptr (.agg [.lit (.string _)])) => t == "*errors.errorString"
  | _ => false
theorem types : (Rows.amendOwnRow.laid.all fun x => !isErr x.2 || (match Tryz.prog.globalNamed x.1 with | some g => (Tryz.prog.globals[g]?).map (·.type) == some 26 | none => true)) = true := by kernel_rfl
theorem typed (n : String) (s : List UInt8) (hm : (n, errD s) ∈ Rows.amendOwnRow.laid) (g : Nat) (hg : Tryz.prog.globalNamed n = some g) : (Tryz.prog.globals[g]?).map (·.type) = some 26 := by
  have h := List.all_eq_true.1 types _ hm
  have e : isErr (errD s) = true := rfl
  simp only [e, hg, Bool.not_true, Bool.false_or] at h
  simpa using h
/-- the listed sentinels: number, name, text -/
def listed : List (Nat × String × List UInt8) := [(3, "tithe/api.ErrFrac", [110, 111, 32, 102, 114, 97, 99, 116, 105, 111, 110]), (0, "tithe/api.ErrTwice", [105, 116, 32, 105, 115, 32, 116, 104, 101, 114, 101, 32, 97, 108, 114, 101, 97, 100, 121]), (1, "tithe/api.ErrMany", [116, 111, 111, 32, 109, 97, 110, 121]), (2, "tithe/api.ErrInput", [110, 111, 32, 115, 117, 99, 104, 32, 105, 110, 112, 117, 116])]
theorem listed_ok : ∀ x ∈ listed, Tryz.prog.globalNamed x.2.1 = some x.1 ∧ (x.2.1, errD x.2.2) ∈ Rows.amendOwnRow.laid := by
  intro x hx
  simp only [listed, List.mem_cons, List.not_mem_nil, or_false] at hx
  rcases hx with rfl | rfl | rfl | rfl
  all_goals exact ⟨by kernel_rfl, by simp [Rows.amendOwnRow, errD, Rows.laid_tithe_api_ErrFrac, Rows.laid_tithe_api_ErrTwice, Rows.laid_tithe_api_ErrMany, Rows.laid_tithe_api_ErrInput]⟩
theorem params : Tryz.f4.params.toList = [23, 22] := by kernel_rfl
theorem readable : ∀ t ∈ Tryz.f4.params.toList, Tryz.prog.readableRec t = true ∧ t < Tryz.prog.types.size := by
  rw [params]
  have hall : ([23, 22].all fun t => Tryz.prog.readableRec t && decide (t < Tryz.prog.types.size)) = true := by kernel_rfl
  intro t ht
  simpa using List.all_eq_true.1 hall t ht

set_option maxRecDepth 100000 in
theorem contract (H : Type) (enc : TypeId × Value → H) (W : World) (base : Nat) (args : Array Value) (ds gs : List (DataW H)) (before : List MemPlace)
    (hval : ∀ (j : Nat) t v, Tryz.f4.params[j]? = some t → args[j]? = some v → Value.okWide Tryz.prog W .any base t v)
    (hW : DataW.Whole enc Tryz.prog Tryz.f4.params.toList Rows.amendOwnSpec.vars false W args.toList ds gs before) (hL : laidMetH Tryz.prog Rows.amendOwnRow.laid W) (hS : W.ShapedOpen Tryz.prog) :
    Calls Tryz.prog 4 args W fun e W' => ∃ v, e = .returned v ∧ Rows.amendOwnSpec.post enc Tryz.prog Tryz.f4 false true false false W args v W' := by
  have hW' := hW
  obtain ⟨p, q, hA0, hV, rfl, hfz, hnd⟩ := hW
  have hA : DataW.TrodAll enc Tryz.prog W 0 (fun _ => true) true Tryz.f4.params.toList args.toList ds p := hA0
  rw [Tryz.params4] at hA hval
  obtain ⟨v0, vs0, d0, ds0, p0, q0, hargs, rfl, rfl, h0, r0⟩ := trodAll_cons hA
  obtain ⟨v1, vs1, d1, ds1, p1, q1, rfl, rfl, rfl, h1, r1⟩ := trodAll_cons r0
  obtain ⟨rfl, rfl, rfl⟩ := trodAll_nil r1
  obtain rfl : args = #[v0, v1] := by cases args; simp_all
  obtain ⟨rfl, rfl⟩ := trodVars_none hV
  obtain ⟨E, hE⟩ := env_of_laid (W := W) (laid := Rows.amendOwnRow.laid) (L := listed) hL typed listed_ok
  obtain ⟨m, hm⟩ := Tryz.laysM146.s1_3 W hS
  have hT : PowT W := powT_of_laid (laid := Rows.amendOwnRow.laid) hL (List.mem_of_getElem? (i := 2) (by kernel_rfl))
  obtain ⟨A0, c0, l0, rfl, _, _, hr0, hi0⟩ := open_changes (hval 0 23 v0 rfl rfl) h0
  obtain ⟨A1, c1, l1, rfl, _, _, hr1, hi1⟩ := open_items (hval 1 22 v1 rfl rfl) h1
  refine (own25_any l0 l1 A0 A1 c0 c1 E m W hr0 hr1 hi0 hi1 (hE.sub (by decide)) hT hm).mono fun e W' he => ?_
  obtain ⟨he, hb⟩ := he
  subst he
  exact ⟨_, rfl, law_post hW' rfl rfl laidOut readable rfl Tryz.underlying4 hb⟩

theorem door_met (os : Os) : laidMetH Tryz.prog Rows.amendOwnRow.laid ((door os).forCall (fun _ _ => 0) ⟨#[], #[.slice none 0 0, .slice none 0 0], []⟩).memory :=
  laidMetH_of_parts3 (fuel := 8) (laidMet_of_run3 8 (by kernel_rfl) (by kernel_rfl) (by kernel_rfl)) (by kernel_rfl) (by kernel_rfl)
set_option maxRecDepth 100000 in
theorem lifted (os : Os) (started : os.Started) (H : Type) (enc : TypeId × Value → H) :
    ReturnsInHanded {} Tryz.checked os 4 .any (fun w args => (Rows.amendOwnSpec.pre enc Tryz.prog Tryz.f4 [] false w args ∧ laidMetH Tryz.prog Rows.amendOwnRow.laid w) ∧ sizedMet enc Tryz.prog Tryz.f4 (OpenSpec.ofChange Rows.amendOwnSpec) false w args)
      (Rows.amendOwnSpec.post enc Tryz.prog Tryz.f4 false true false false) := by
  refine handed_shape (C := Tryz.checked) (X := fun w _ => laidMetH Tryz.prog Rows.amendOwnRow.laid w) (fun _ _ _ hh h => h.of_heap hh) own started (by kernel_rfl) Tryz.func4
    (ChangeSpec.witness_shaped (enc := enc) (C := Tryz.checked) (os := os) (X := fun w _ => laidMetH Tryz.prog Rows.amendOwnRow.laid w) false (door os) #[.slice none 0 0, .slice none 0 0] 8 rfl (World.shaped_of_RefB (by kernel_rfl) (by kernel_rfl)) (by kernel_rfl) (by kernel_rfl) (by kernel_rfl) (door_met os)) ?_
  intro W base args ds gs before hval0 hW hL hS
  exact contract H enc W base args ds gs before hval0 hW hL hS

theorem said : Rows.AmendOwnSaid :=
  OpenClaim.holds_of_wide 4 Tryz.f4 rfl rfl rfl rfl rfl rfl rfl ⟨rfl, rfl, rfl, rfl, rfl⟩ rfl rfl rfl rfl rfl (by kernel_rfl) Tryz.func4 (by kernel_rfl)
    (of_decide_eq_true (by kernel_rfl)) (by unfold Func.isWrapper; first | (rw [if_pos (by decide +kernel)]; kernel_rfl) | (rw [if_neg (by decide +kernel)]; exact ⟨rfl, rfl⟩))
    (fun os started H enc _ => lifted os started H enc)

theorem plain (f : FuncId) (fn : Func) (hf : Tryz.pinned.checked.prog.funcNamed "tithe/tithelaw25.AmendOwn" = some f) (hfn : Tryz.pinned.checked.prog.funcs[f]? = some fn) :
    true = Tryz.pinned.checked.prog.looks [] ∧ ∀ (j : Nat) t, fn.params[j]? = some t → Tryz.pinned.checked.prog.wantsStandIn t = false := by
  obtain rfl : f = 4 := Option.some.inj ((show Tryz.prog.funcNamed "tithe/tithelaw25.AmendOwn" = some 4 by kernel_rfl).symm.trans hf) |>.symm
  obtain rfl : fn = Tryz.f4 := (Option.some.inj (Tryz.func4.symm.trans hfn)).symm
  refine ⟨by kernel_rfl, fun j t ht => ?_⟩
  have hm : t ∈ Tryz.f4.params.toList := by simpa using Array.mem_of_getElem? ht
  rw [params] at hm
  have hall : ([23, 22].all fun u => !Tryz.prog.wantsStandIn u) = true := by kernel_rfl
  exact (show Tryz.prog.wantsStandIn t = false by simpa using List.all_eq_true.1 hall t hm)

/-- THE CARD -/
theorem card : Rows.AmendOwnCardSaid :=
  Claim7.holds_tied_plain_at .later [] _ _ _ _ said (fun _ h => by cases h) (by kernel_rfl) (fun _ h => by cases h) amendOwn_row_tie rfl ⟨rfl, rfl⟩ (by kernel_rfl) rfl plain (by kernel_rfl)
#print axioms card
end Go.Proofs.YtmoeoomlggjaaaaGreatDoor.lawAmendOwn
