/- The law BootEach: for every input it returns true, and each argument reads afterwards as before. -/
import Derived.Test.YtodlbfekoohpoaaDoorBootDoor
import Derived.Test.YtodlbfekoohpoaaDoorEachF
namespace Go.Proofs.YtodlbfekoohpoaaDoor.lawBootEach
open Go.ChangeShapes Go.WideShapes Go.ChangeAt Go.RowKit Go.Joins

theorem own : ownKnob Tryd.prog.godebug = none := by kernel_rfl
theorem laidOut : laidOutB Tryd.prog = true := by kernel_rfl
def isErr : DataW Unit → Bool
  | .iface t (.ptr (.agg [.lit (.string _)])) => t == "*errors.errorString"
  | _ => false
theorem types : (Rows.bootEachRow.laid.all fun x => !isErr x.2 || (match Tryd.prog.globalNamed x.1 with | some g => (Tryd.prog.globals[g]?).map (·.type) == some 31 | none => true)) = true := by kernel_rfl
theorem typed (n : String) (s : List UInt8) (hm : (n, errD s) ∈ Rows.bootEachRow.laid) (g : Nat) (hg : Tryd.prog.globalNamed n = some g) : (Tryd.prog.globals[g]?).map (·.type) = some 31 := by
  have h := List.all_eq_true.1 types _ hm
  have e : isErr (errD s) = true := rfl
  simp only [e, hg, Bool.not_true, Bool.false_or] at h
  simpa using h
/-- the listed sentinels: number, name, text -/
def listed : List (Nat × String × List UInt8) := [(2, "tithe/api.ErrName", [110, 111, 32, 110, 97, 109, 101]), (1, "tithe/api.ErrTwice", [105, 116, 32, 105, 115, 32, 116, 104, 101, 114, 101, 32, 97, 108, 114, 101, 97, 100, 121]), (4, "tithe/api.ErrMany", [116, 111, 111, 32, 109, 97, 110, 121]), (3, "tithe/api.ErrClosed", [105, 116, 32, 105, 115, 32, 99, 108, 111, 115, 101, 100]), (0, "tithe/api.ErrCircle", [108, 105, 110, 101, 115, 32, 105, 110, 32, 97, 32, 99, 105, 114, 99, 108, 101])]
theorem listed_ok : ∀ x ∈ listed, Tryd.prog.globalNamed x.2.1 = some x.1 ∧ (x.2.1, errD x.2.2) ∈ Rows.bootEachRow.laid := by
  intro x hx
  simp only [listed, List.mem_cons, List.not_mem_nil, or_false] at hx
  rcases hx with rfl | rfl | rfl | rfl | rfl
  all_goals exact ⟨by kernel_rfl, by simp [Rows.bootEachRow, errD, Rows.laid_tithe_api_ErrName, Rows.laid_tithe_api_ErrTwice, Rows.laid_tithe_api_ErrMany, Rows.laid_tithe_api_ErrClosed, Rows.laid_tithe_api_ErrCircle]⟩
theorem params : Tryd.f6.params.toList = [3, 3] := by kernel_rfl
theorem readable : ∀ t ∈ Tryd.f6.params.toList, Tryd.prog.readableRec t = true ∧ t < Tryd.prog.types.size := by
  rw [params]
  have hall : ([3, 3].all fun t => Tryd.prog.readableRec t && decide (t < Tryd.prog.types.size)) = true := by kernel_rfl
  intro t ht
  simpa using List.all_eq_true.1 hall t ht

set_option maxRecDepth 100000 in
theorem contract (H : Type) (enc : TypeId × Value → H) (W : World) (base : Nat) (args : Array Value) (ds gs : List (DataW H)) (before : List MemPlace)
    (hval : ∀ (j : Nat) t v, Tryd.f6.params[j]? = some t → args[j]? = some v → Value.okWide Tryd.prog W .any base t v)
    (hW : DataW.Whole enc Tryd.prog Tryd.f6.params.toList Rows.bootEachSpec.vars false W args.toList ds gs before) (hL : laidMetH Tryd.prog Rows.bootEachRow.laid W) (hS : W.ShapedOpen Tryd.prog) :
    Calls Tryd.prog 6 args W fun e W' => ∃ v, e = .returned v ∧ Rows.bootEachSpec.post enc Tryd.prog Tryd.f6 false true false false W args v W' := by
  have hW' := hW
  obtain ⟨p, q, hA0, hV, rfl, hfz, hnd⟩ := hW
  have hA : DataW.TrodAll enc Tryd.prog W 0 (fun _ => true) true Tryd.f6.params.toList args.toList ds p := hA0
  rw [Tryd.params6] at hA hval
  obtain ⟨v0, vs0, d0, ds0, p0, q0, hargs, rfl, rfl, h0, r0⟩ := trodAll_cons hA
  obtain ⟨v1, vs1, d1, ds1, p1, q1, rfl, rfl, rfl, h1, r1⟩ := trodAll_cons r0
  obtain ⟨rfl, rfl, rfl⟩ := trodAll_nil r1
  obtain rfl : args = #[v0, v1] := by cases args; simp_all
  obtain ⟨rfl, rfl⟩ := trodVars_none hV
  obtain ⟨E, hE⟩ := env_of_laid (W := W) (laid := Rows.bootEachRow.laid) (L := listed) hL typed listed_ok
  obtain ⟨m, hm⟩ := Tryd.laysM146.s1_3 W hS
  obtain ⟨n0, rfl, rfl, rfl, wf0⟩ := open_int Tryd.underlying3 (hval 0 3 v0 rfl rfl) h0
  obtain ⟨n1, rfl, rfl, rfl, wf1⟩ := open_int Tryd.underlying3 (hval 1 3 v1 rfl rfl) h1
  refine (eachB_any n0 n1 E m W (hE.sub (by decide)) hm (i64_bounds wf1)).mono fun e W' he => ?_
  obtain ⟨he, hb⟩ := he
  subst he
  exact ⟨_, rfl, law_post hW' rfl rfl laidOut readable rfl Tryd.underlying4 hb⟩

theorem door_met (os : Os) : laidMetH Tryd.prog Rows.bootEachRow.laid ((door os).forCall (fun _ _ => 0) ⟨#[], #[.int .i64 0, .int .i64 0], []⟩).memory :=
  laidMetH_of_parts3 (fuel := 8) (laidMet_of_run3 8 (by kernel_rfl) (by kernel_rfl) (by kernel_rfl)) (by kernel_rfl) (by kernel_rfl)
set_option maxRecDepth 100000 in
theorem lifted (os : Os) (started : os.Started) (H : Type) (enc : TypeId × Value → H) :
    ReturnsInHanded {} Tryd.checked os 6 .any (fun w args => (Rows.bootEachSpec.pre enc Tryd.prog Tryd.f6 [] false w args ∧ laidMetH Tryd.prog Rows.bootEachRow.laid w) ∧ sizedMet enc Tryd.prog Tryd.f6 (OpenSpec.ofChange Rows.bootEachSpec) false w args)
      (Rows.bootEachSpec.post enc Tryd.prog Tryd.f6 false true false false) := by
  refine handed_shape (C := Tryd.checked) (X := fun w _ => laidMetH Tryd.prog Rows.bootEachRow.laid w) (fun _ _ _ hh h => h.of_heap hh) own started (by kernel_rfl) Tryd.func6
    (ChangeSpec.witness_shaped (enc := enc) (C := Tryd.checked) (os := os) (X := fun w _ => laidMetH Tryd.prog Rows.bootEachRow.laid w) false (door os) #[.int .i64 0, .int .i64 0] 8 rfl (World.shaped_of_RefB (by kernel_rfl) (by kernel_rfl)) (by kernel_rfl) (by kernel_rfl) (by kernel_rfl) (door_met os)) ?_
  intro W base args ds gs before hval0 hW hL hS
  exact contract H enc W base args ds gs before hval0 hW hL hS

theorem said : Rows.BootEachSaid :=
  OpenClaim.holds_of_wide 6 Tryd.f6 rfl rfl rfl rfl rfl rfl rfl ⟨rfl, rfl, rfl, rfl, rfl⟩ rfl rfl rfl rfl rfl (by kernel_rfl) Tryd.func6 (by kernel_rfl)
    (of_decide_eq_true (by kernel_rfl)) (by unfold Func.isWrapper; first | (rw [if_pos (by decide +kernel)]; kernel_rfl) | (rw [if_neg (by decide +kernel)]; exact ⟨rfl, rfl⟩))
    (fun os started H enc _ => lifted os started H enc)

theorem plain (f : FuncId) (fn : Func) (hf : Tryd.pinned.checked.prog.funcNamed "tithe/tithelaw5.BootEach" = some f) (hfn : Tryd.pinned.checked.prog.funcs[f]? = some fn) :
    true = Tryd.pinned.checked.prog.looks [] ∧ ∀ (j : Nat) t, fn.params[j]? = some t → Tryd.pinned.checked.prog.wantsStandIn t = false := by
  obtain rfl : f = 6 := Option.some.inj ((show Tryd.prog.funcNamed "tithe/tithelaw5.BootEach" = some 6 by kernel_rfl).symm.trans hf) |>.symm
  obtain rfl : fn = Tryd.f6 := (Option.some.inj (Tryd.func6.symm.trans hfn)).symm
  refine ⟨by kernel_rfl, fun j t ht => ?_⟩
  have hm : t ∈ Tryd.f6.params.toList := by simpa using Array.mem_of_getElem? ht
  rw [params] at hm
  have hall : ([3, 3].all fun u => !Tryd.prog.wantsStandIn u) = true := by kernel_rfl
  exact (show Tryd.prog.wantsStandIn t = false by simpa using List.all_eq_true.1 hall t hm)

/-- THE CARD -/
theorem card : Rows.BootEachCardSaid :=
  Claim7.holds_tied_plain_at .later [] _ _ _ _ said (fun _ h => by cases h) (by kernel_rfl) (fun _ h => by cases h) bootEach_row_tie rfl ⟨rfl, rfl⟩ (by kernel_rfl) rfl plain (by kernel_rfl)
#print axioms card
end Go.Proofs.YtodlbfekoohpoaaDoor.lawBootEach
