/- The law BookAnyOrder: for every input it returns true, and each argument reads afterwards as before. -/
import Derived.Test.YtngckppnaflciaaDoorBootDoor
import Derived.Test.YtngckppnaflciaaDoorBlG
import Derived.Test.YtngckppnaflciaaDoorBlE
namespace Go.Proofs.YtngckppnaflciaaDoor.lawBookAnyOrder
open Go.ChangeShapes Go.WideShapes Go.ChangeAt Go.RowKit Go.Joins

theorem own : ownKnob Tryd.prog.godebug = none := by kernel_rfl
theorem laidOut : laidOutB Tryd.prog = true := by kernel_rfl
def isErr : DataW Unit → Bool
  | .iface t (.ptr (.agg [.lit (.string _)])) => t == "*errors.errorString"
  | _ => false
theorem types : (Rows.bookAnyOrderRow.laid.all fun x => !isErr x.2 || (match Tryd.prog.globalNamed x.1 with | some g => (Tryd.prog.globals[g]?).map (·.type) == some 31 | none => true)) = true := by kernel_rfl
theorem typed (n : String) (s : List UInt8) (hm : (n, errD s) ∈ Rows.bookAnyOrderRow.laid) (g : Nat) (hg : Tryd.prog.globalNamed n = some g) : (Tryd.prog.globals[g]?).map (·.type) = some 31 := by
  have h := List.all_eq_true.1 types _ hm
  have e : isErr (errD s) = true := rfl
  simp only [e, hg, Bool.not_true, Bool.false_or] at h
  simpa using h
/-- the listed sentinels: number, name, text -/
def listed : List (Nat × String × List UInt8) := [(8, "tithe/api.ErrFrac", [110, 111, 32, 102, 114, 97, 99, 116, 105, 111, 110]), (11, "tithe/api.ErrRound", [110, 111, 32, 114, 111, 117, 110, 100, 105, 110, 103]), (5, "tithe/api.ErrDay", [110, 111, 32, 100, 97, 121]), (4, "tithe/api.ErrSpan", [110, 111, 32, 115, 112, 97, 110]), (3, "tithe/api.ErrName", [110, 111, 32, 110, 97, 109, 101]), (7, "tithe/api.ErrKind", [111, 102, 32, 97, 110, 111, 116, 104, 101, 114, 32, 107, 105, 110, 100]), (9, "tithe/api.ErrScale", [110, 111, 32, 115, 99, 97, 108, 101]), (6, "tithe/api.ErrProv", [110, 111, 32, 112, 114, 111, 118, 105, 115, 105, 111, 110]), (0, "tithe/api.ErrTwice", [105, 116, 32, 105, 115, 32, 116, 104, 101, 114, 101, 32, 97, 108, 114, 101, 97, 100, 121]), (2, "tithe/api.ErrMany", [116, 111, 111, 32, 109, 97, 110, 121]), (1, "tithe/api.ErrClosed", [105, 116, 32, 105, 115, 32, 99, 108, 111, 115, 101, 100]), (10, "tithe/api.ErrLong", [116, 111, 111, 32, 108, 111, 110, 103])]
theorem listed_ok : ∀ x ∈ listed, Tryd.prog.globalNamed x.2.1 = some x.1 ∧ (x.2.1, errD x.2.2) ∈ Rows.bookAnyOrderRow.laid := by
  intro x hx
  simp only [listed, List.mem_cons, List.not_mem_nil, or_false] at hx
  rcases hx with rfl | rfl | rfl | rfl | rfl | rfl | rfl | rfl | rfl | rfl | rfl | rfl
  all_goals exact ⟨by kernel_rfl, by simp [Rows.bookAnyOrderRow, errD, Rows.laid_tithe_api_ErrFrac, Rows.laid_tithe_api_ErrRound, Rows.laid_tithe_api_ErrDay, Rows.laid_tithe_api_ErrSpan, Rows.laid_tithe_api_ErrName, Rows.laid_tithe_api_ErrKind, Rows.laid_tithe_api_ErrScale, Rows.laid_tithe_api_ErrProv, Rows.laid_tithe_api_ErrTwice, Rows.laid_tithe_api_ErrMany, Rows.laid_tithe_api_ErrClosed, Rows.laid_tithe_api_ErrLong]⟩
theorem params : Tryd.f3.params.toList = [22, 23, 3, 9] := by kernel_rfl
theorem readable : ∀ t ∈ Tryd.f3.params.toList, Tryd.prog.readableRec t = true ∧ t < Tryd.prog.types.size := by
  rw [params]
  have hall : ([22, 23, 3, 9].all fun t => Tryd.prog.readableRec t && decide (t < Tryd.prog.types.size)) = true := by kernel_rfl
  intro t ht
  simpa using List.all_eq_true.1 hall t ht

set_option maxRecDepth 100000 in
theorem contract (H : Type) (enc : TypeId × Value → H) (W : World) (base : Nat) (args : Array Value) (ds gs : List (DataW H)) (before : List MemPlace)
    (hval : ∀ (j : Nat) t v, Tryd.f3.params[j]? = some t → args[j]? = some v → Value.okWide Tryd.prog W .any base t v)
    (hW : DataW.Whole enc Tryd.prog Tryd.f3.params.toList Rows.bookAnyOrderSpec.vars false W args.toList ds gs before) (hL : laidMetH Tryd.prog Rows.bookAnyOrderRow.laid W) (hS : W.ShapedOpen Tryd.prog) :
    Calls Tryd.prog 3 args W fun e W' => ∃ v, e = .returned v ∧ Rows.bookAnyOrderSpec.post enc Tryd.prog Tryd.f3 false true false false W args v W' := by
  have hW' := hW
  obtain ⟨p, q, hA0, hV, rfl, hfz, hnd⟩ := hW
  have hA : DataW.TrodAll enc Tryd.prog W 0 (fun _ => true) true Tryd.f3.params.toList args.toList ds p := hA0
  rw [Tryd.params3] at hA hval
  obtain ⟨v0, vs0, d0, ds0, p0, q0, hargs, rfl, rfl, h0, r0⟩ := trodAll_cons hA
  obtain ⟨v1, vs1, d1, ds1, p1, q1, rfl, rfl, rfl, h1, r1⟩ := trodAll_cons r0
  obtain ⟨v2, vs2, d2, ds2, p2, q2, rfl, rfl, rfl, h2, r2⟩ := trodAll_cons r1
  obtain ⟨v3, vs3, d3, ds3, p3, q3, rfl, rfl, rfl, h3, r3⟩ := trodAll_cons r2
  obtain ⟨rfl, rfl, rfl⟩ := trodAll_nil r3
  obtain rfl : args = #[v0, v1, v2, v3] := by cases args; simp_all
  obtain ⟨rfl, rfl⟩ := trodVars_none hV
  obtain ⟨E, hE⟩ := env_of_laid (W := W) (laid := Rows.bookAnyOrderRow.laid) (L := listed) hL typed listed_ok
  obtain ⟨m, hm⟩ := Tryd.laysM146.s1_3 W hS
  obtain ⟨A0, c0, l0, rfl, hm0, hr0, hi0⟩ := open_provs (hval 0 22 v0 rfl rfl) h0
  obtain ⟨A1, c1, l1, rfl, hc1, hm1, hr1, hi1⟩ := open_intsZ (hval 1 23 v1 rfl rfl) h1
  obtain ⟨n2, rfl, rfl, rfl, wf2⟩ := open_int Tryd.underlying3 (hval 2 3 v2 rfl rfl) h2
  obtain ⟨s3, rfl, rfl, rfl, hs3⟩ := Go.ChangeMaps.open_string Tryd.underlying9 (hval 3 9 v3 rfl rfl) h3
  refine (anyorder_any l0 A0 c0 l1 A1 c1 n2 s3 E m W hr0 (by unfold maxLen at hm0; omega) hi0 hr1 (by unfold maxLen at hm1; omega) hi1 (hE.sub (by decide)) hm).mono fun e W' he => ?_
  obtain ⟨he, hb⟩ := he
  subst he
  exact ⟨_, rfl, law_post hW' rfl rfl laidOut readable rfl Tryd.underlying4 hb⟩

theorem door_met (os : Os) : laidMetH Tryd.prog Rows.bookAnyOrderRow.laid ((door os).forCall (fun _ _ => 0) ⟨#[], #[.slice none 0 0, .slice none 0 0, .int .i64 0, .string ⟨#[]⟩], []⟩).memory :=
  laidMetH_of_parts3 (fuel := 8) (laidMet_of_run3 8 (by kernel_rfl) (by kernel_rfl) (by kernel_rfl)) (by kernel_rfl) (by kernel_rfl)
set_option maxRecDepth 100000 in
theorem lifted (os : Os) (started : os.Started) (H : Type) (enc : TypeId × Value → H) :
    ReturnsInHanded {} Tryd.checked os 3 .any (fun w args => (Rows.bookAnyOrderSpec.pre enc Tryd.prog Tryd.f3 [] false w args ∧ laidMetH Tryd.prog Rows.bookAnyOrderRow.laid w) ∧ sizedMet enc Tryd.prog Tryd.f3 (OpenSpec.ofChange Rows.bookAnyOrderSpec) false w args)
      (Rows.bookAnyOrderSpec.post enc Tryd.prog Tryd.f3 false true false false) := by
  refine handed_shape (C := Tryd.checked) (X := fun w _ => laidMetH Tryd.prog Rows.bookAnyOrderRow.laid w) (fun _ _ _ hh h => h.of_heap hh) own started (by kernel_rfl) Tryd.func3
    (ChangeSpec.witness_shaped (enc := enc) (C := Tryd.checked) (os := os) (X := fun w _ => laidMetH Tryd.prog Rows.bookAnyOrderRow.laid w) false (door os) #[.slice none 0 0, .slice none 0 0, .int .i64 0, .string ⟨#[]⟩] 8 rfl (World.shaped_of_RefB (by kernel_rfl) (by kernel_rfl)) (by kernel_rfl) (by kernel_rfl) (by kernel_rfl) (door_met os)) ?_
  intro W base args ds gs before hval0 hW hL hS
  exact contract H enc W base args ds gs before hval0 hW hL hS

theorem said : Rows.BookAnyOrderSaid :=
  OpenClaim.holds_of_wide 3 Tryd.f3 rfl rfl rfl rfl rfl rfl rfl ⟨rfl, rfl, rfl, rfl, rfl⟩ rfl rfl rfl rfl rfl (by kernel_rfl) Tryd.func3 (by kernel_rfl)
    (of_decide_eq_true (by kernel_rfl)) (by unfold Func.isWrapper; first | (rw [if_pos (by decide +kernel)]; kernel_rfl) | (rw [if_neg (by decide +kernel)]; exact ⟨rfl, rfl⟩))
    (fun os started H enc _ => lifted os started H enc)

theorem plain (f : FuncId) (fn : Func) (hf : Tryd.pinned.checked.prog.funcNamed "tithe/tithelaw8.BookAnyOrder" = some f) (hfn : Tryd.pinned.checked.prog.funcs[f]? = some fn) :
    true = Tryd.pinned.checked.prog.looks [] ∧ ∀ (j : Nat) t, fn.params[j]? = some t → Tryd.pinned.checked.prog.wantsStandIn t = false := by
  obtain rfl : f = 3 := Option.some.inj ((show Tryd.prog.funcNamed "tithe/tithelaw8.BookAnyOrder" = some 3 by kernel_rfl).symm.trans hf) |>.symm
  obtain rfl : fn = Tryd.f3 := (Option.some.inj (Tryd.func3.symm.trans hfn)).symm
  refine ⟨by kernel_rfl, fun j t ht => ?_⟩
  have hm : t ∈ Tryd.f3.params.toList := by simpa using Array.mem_of_getElem? ht
  rw [params] at hm
  have hall : ([22, 23, 3, 9].all fun u => !Tryd.prog.wantsStandIn u) = true := by kernel_rfl
  exact (show Tryd.prog.wantsStandIn t = false by simpa using List.all_eq_true.1 hall t hm)

/-- THE CARD -/
theorem card : Rows.BookAnyOrderCardSaid :=
  Claim7.holds_tied_plain_at .later [] _ _ _ _ said (fun _ h => by cases h) (by kernel_rfl) (fun _ h => by cases h) bookAnyOrder_row_tie rfl ⟨rfl, rfl⟩ (by kernel_rfl) rfl plain (by kernel_rfl)
#print axioms card
end Go.Proofs.YtngckppnaflciaaDoor.lawBookAnyOrder
