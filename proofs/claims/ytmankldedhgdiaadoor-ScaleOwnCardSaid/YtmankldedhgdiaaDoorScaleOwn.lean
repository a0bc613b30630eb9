/- The law ScaleOwn: for every input it returns true, and each argument reads afterwards as before. -/
import Derived.Test.YtmankldedhgdiaaDoorEnv
import Derived.Test.YtmankldedhgdiaaDoorScaleO
import Derived.Test.YtmankldedhgdiaaDoorSoS
namespace Go.Proofs.YtmankldedhgdiaaDoor.lawScaleOwn
open Go.ChangeShapes Go.WideShapes Go.ChangeAt Go.RowKit Go.Joins

theorem own : ownKnob Tryd.prog.godebug = none := by kernel_rfl
theorem laidOut : laidOutB Tryd.prog = true := by kernel_rfl
def isErr : DataW Unit → Bool
  | .iface t (.ptr (.agg [.lit (.string _)])) => t == "*errors.errorString"
  | _ => false
theorem types : (Rows.scaleOwnRow.laid.all fun x => !isErr x.2 || (match Tryd.prog.globalNamed x.1 with | some g => (Tryd.prog.globals[g]?).map (·.type) == some 34 | none => true)) = true := by kernel_rfl
theorem typed (n : String) (s : List UInt8) (hm : (n, errD s) ∈ Rows.scaleOwnRow.laid) (g : Nat) (hg : Tryd.prog.globalNamed n = some g) : (Tryd.prog.globals[g]?).map (·.type) = some 34 := by
  have h := List.all_eq_true.1 types _ hm
  have e : isErr (errD s) = true := rfl
  simp only [e, hg, Bool.not_true, Bool.false_or] at h
  simpa using h
/-- the listed sentinels: number, name, text -/
def listed : List (Nat × String × List UInt8) := [(5, "tithe/api.ErrRange", [97, 32, 110, 117, 109, 98, 101, 114, 32, 98, 101, 121, 111, 110, 100, 32, 116, 104, 101, 32, 114, 97, 110, 103, 101]), (4, "tithe/api.ErrZero", [100, 105, 118, 105, 100, 101, 100, 32, 98, 121, 32, 122, 101, 114, 111]), (3, "tithe/api.ErrFrac", [110, 111, 32, 102, 114, 97, 99, 116, 105, 111, 110]), (1, "tithe/api.ErrScale", [110, 111, 32, 115, 99, 97, 108, 101]), (2, "tithe/api.ErrMany", [116, 111, 111, 32, 109, 97, 110, 121]), (0, "tithe/api.ErrNone", [116, 104, 101, 114, 101, 32, 105, 115, 32, 110, 111, 110, 101])]
theorem listed_ok : ∀ x ∈ listed, Tryd.prog.globalNamed x.2.1 = some x.1 ∧ (x.2.1, errD x.2.2) ∈ Rows.scaleOwnRow.laid := by
  intro x hx
  simp only [listed, List.mem_cons, List.not_mem_nil, or_false] at hx
  rcases hx with rfl | rfl | rfl | rfl | rfl | rfl
  all_goals exact ⟨by kernel_rfl, by simp [Rows.scaleOwnRow, errD, Rows.laid_tithe_api_ErrRange, Rows.laid_tithe_api_ErrZero, Rows.laid_tithe_api_ErrFrac, Rows.laid_tithe_api_ErrScale, Rows.laid_tithe_api_ErrMany, Rows.laid_tithe_api_ErrNone]⟩
theorem params : Tryd.f3.params.toList = [22, 22, 24, 24] := by kernel_rfl
theorem readable : ∀ t ∈ Tryd.f3.params.toList, Tryd.prog.readableRec t = true ∧ t < Tryd.prog.types.size := by
  rw [params]
  have hall : ([22, 22, 24, 24].all fun t => Tryd.prog.readableRec t && decide (t < Tryd.prog.types.size)) = true := by kernel_rfl
  intro t ht
  simpa using List.all_eq_true.1 hall t ht

set_option maxRecDepth 100000 in
theorem contract (H : Type) (enc : TypeId × Value → H) (W : World) (base : Nat) (args : Array Value) (ds gs : List (DataW H)) (before : List MemPlace)
    (hval : ∀ (j : Nat) t v, Tryd.f3.params[j]? = some t → args[j]? = some v → Value.okWide Tryd.prog W .any base t v)
    (hW : DataW.Whole enc Tryd.prog Tryd.f3.params.toList Rows.scaleOwnSpec.vars false W args.toList ds gs before) (hL : laidMetH Tryd.prog Rows.scaleOwnRow.laid W) :
    Calls Tryd.prog 3 args W fun e W' => ∃ v, e = .returned v ∧ Rows.scaleOwnSpec.post enc Tryd.prog Tryd.f3 false true false false W args v W' := by
  have hW' := hW
  obtain ⟨p, q, hA0, hV, rfl, hfz, hnd⟩ := hW
  have hA : DataW.TrodAll enc Tryd.prog W 0 (fun _ => true) true Tryd.f3.params.toList args.toList ds p := hA0
  rw [Tryd.params3] at hA hval
  obtain ⟨v0, vs0, d0, ds0, p0, q0, hargs, rfl, rfl, h0, r0⟩ := trodAll_cons hA
  obtain ⟨v1, vs1, d1, ds1, p1, q1, rfl, rfl, rfl, h1, r1⟩ := trodAll_cons r0
  obtain ⟨v2, vs2, d2, ds2, p2, q2, rfl, rfl, rfl, h2, r2⟩ := trodAll_cons r1
  obtain ⟨v3, vs3, d3, ds3, p3, q3, rfl, rfl, rfl, h3, r3⟩ := trodAll_cons r2
  obtain ⟨rfl, rfl, rfl⟩ := trodAll_nil r3
  obtain rfl : args = #[v0, v1, v2, v3] := by cases args; simp_all
  obtain ⟨rfl, rfl⟩ := trodVars_none hV
  obtain ⟨E, hE⟩ := env_of_laid (W := W) (laid := Rows.scaleOwnRow.laid) (L := listed) hL typed listed_ok
  obtain ⟨A0, c0, L0, rfl, hc0, hm0, hr0, hi0⟩ := open_brackets (hval 0 22 v0 rfl rfl) h0
  obtain ⟨A1, c1, L1, rfl, hc1, hm1, hr1, hi1⟩ := open_brackets (hval 1 22 v1 rfl rfl) h1
  obtain ⟨c2a, c2b, y2a, y2b, m2, rfl, rfl, rfl, hy2a, hy2b⟩ := open_agg2 Tryd.underlying24 (by kernel_rfl) (by kernel_rfl) (hval 2 24 v2 rfl rfl) h2
  obtain ⟨n2a, e2a, rfl, wf2a⟩ := DataW.trod_int Tryd.underlying3 hy2a
  simp only [List.cons.injEq, and_true] at e2a
  subst e2a
  obtain ⟨l2a, u2a⟩ := i64_bounds wf2a
  obtain ⟨n2b, e2b, rfl, wf2b⟩ := DataW.trod_int Tryd.underlying3 hy2b
  simp only [List.cons.injEq, and_true] at e2b
  subst e2b
  obtain ⟨l2b, u2b⟩ := i64_bounds wf2b
  obtain ⟨c3a, c3b, y3a, y3b, m3, rfl, rfl, rfl, hy3a, hy3b⟩ := open_agg2 Tryd.underlying24 (by kernel_rfl) (by kernel_rfl) (hval 3 24 v3 rfl rfl) h3
  obtain ⟨n3a, e3a, rfl, wf3a⟩ := DataW.trod_int Tryd.underlying3 hy3a
  simp only [List.cons.injEq, and_true] at e3a
  subst e3a
  obtain ⟨l3a, u3a⟩ := i64_bounds wf3a
  obtain ⟨n3b, e3b, rfl, wf3b⟩ := DataW.trod_int Tryd.underlying3 hy3b
  simp only [List.cons.injEq, and_true] at e3b
  subst e3b
  obtain ⟨l3b, u3b⟩ := i64_bounds wf3b
  refine (scaleOwn_walk L0 L1 A0 A1 c0 c1 n2a n2b n3a n3b E W hr0 hr1 hi0 hi1 ⟨l2a, u2a⟩ ⟨l2b, u2b⟩ ⟨l3a, u3a⟩ ⟨l3b, u3b⟩ (hE.sub (by decide)) (by unfold maxLen at hm0; omega) (by unfold maxLen at hm1; omega)).mono fun e W' he => ?_
  obtain ⟨he, hb⟩ := he
  subst he
  exact ⟨_, rfl, law_post hW' rfl rfl laidOut readable rfl Tryd.underlying4 hb⟩

theorem door_met (os : Os) : laidMetH Tryd.prog Rows.scaleOwnRow.laid ((World.doorLaid Tryd.prog 123 os).forCall (fun _ _ => 0) ⟨#[], #[.slice none 0 0, .slice none 0 0, .agg #[.int .i64 0, .int .i64 0], .agg #[.int .i64 0, .int .i64 0]], []⟩).memory :=
  laidMetH_of_parts3 (fuel := 8) (laidMet_of_run' 8 (by kernel_rfl) (by kernel_rfl)) (by kernel_rfl) (by kernel_rfl)
set_option maxRecDepth 100000 in
theorem lifted (os : Os) (started : os.Started) (H : Type) (enc : TypeId × Value → H) :
    ReturnsInHanded {} Tryd.checked os 3 .any (fun w args => (Rows.scaleOwnSpec.pre enc Tryd.prog Tryd.f3 [] false w args ∧ laidMetH Tryd.prog Rows.scaleOwnRow.laid w) ∧ sizedMet enc Tryd.prog Tryd.f3 (OpenSpec.ofChange Rows.scaleOwnSpec) false w args)
      (Rows.scaleOwnSpec.post enc Tryd.prog Tryd.f3 false true false false) := by
  refine returnsInHanded_of_change_and (C := Tryd.checked) (X := fun w _ => laidMetH Tryd.prog Rows.scaleOwnRow.laid w) (fun _ _ _ hh h => h.of_heap hh) own started (by kernel_rfl) Tryd.func3
    (ChangeSpec.witness_shaped (enc := enc) (C := Tryd.checked) (os := os) (X := fun w _ => laidMetH Tryd.prog Rows.scaleOwnRow.laid w) false (World.doorLaid Tryd.prog 123 os) #[.slice none 0 0, .slice none 0 0, .agg #[.int .i64 0, .int .i64 0], .agg #[.int .i64 0, .int .i64 0]] 8 rfl (World.shaped_of_RefB (by kernel_rfl) (by kernel_rfl)) (by kernel_rfl) (by kernel_rfl) (by kernel_rfl) (door_met os)) ?_
  intro W base args ds gs before hval0 hW _ hS hL _
  exact contract H enc W base args ds gs before hval0 hW hL

theorem said : Rows.ScaleOwnSaid :=
  OpenClaim.holds_of_wide 3 Tryd.f3 rfl rfl rfl rfl rfl rfl rfl ⟨rfl, rfl, rfl, rfl, rfl⟩ rfl rfl rfl rfl rfl (by kernel_rfl) Tryd.func3 (by kernel_rfl)
    (of_decide_eq_true (by kernel_rfl)) (by unfold Func.isWrapper; first | (rw [if_pos (by decide +kernel)]; kernel_rfl) | (rw [if_neg (by decide +kernel)]; exact ⟨rfl, rfl⟩))
    (fun os started H enc _ => lifted os started H enc)

theorem plain (f : FuncId) (fn : Func) (hf : Tryd.pinned.checked.prog.funcNamed "tithe/tithelaw15.ScaleOwn" = some f) (hfn : Tryd.pinned.checked.prog.funcs[f]? = some fn) :
    true = Tryd.pinned.checked.prog.looks [] ∧ ∀ (j : Nat) t, fn.params[j]? = some t → Tryd.pinned.checked.prog.wantsStandIn t = false := by
  obtain rfl : f = 3 := Option.some.inj ((show Tryd.prog.funcNamed "tithe/tithelaw15.ScaleOwn" = some 3 by kernel_rfl).symm.trans hf) |>.symm
  obtain rfl : fn = Tryd.f3 := (Option.some.inj (Tryd.func3.symm.trans hfn)).symm
  refine ⟨by kernel_rfl, fun j t ht => ?_⟩
  have hm : t ∈ Tryd.f3.params.toList := by simpa using Array.mem_of_getElem? ht
  rw [params] at hm
  have hall : ([22, 22, 24, 24].all fun u => !Tryd.prog.wantsStandIn u) = true := by kernel_rfl
  exact (show Tryd.prog.wantsStandIn t = false by simpa using List.all_eq_true.1 hall t hm)

/-- THE CARD -/
theorem card : Rows.ScaleOwnCardSaid :=
  Claim7.holds_tied_plain_at .later [] _ _ _ _ said (fun _ h => by cases h) (by kernel_rfl) (fun _ h => by cases h) scaleOwn_row_tie rfl ⟨rfl, rfl⟩ (by kernel_rfl) rfl plain (by kernel_rfl)
#print axioms card
end Go.Proofs.YtmankldedhgdiaaDoor.lawScaleOwn
