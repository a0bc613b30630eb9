/- Days in both, the document's Over, Days, Cut, and the walk of LineLaid. -/
import Derived.Test.YtmodofbelpaelaaDoorNd2
import Derived.Test.YtmodofbelpaelaaDoorNormA
import Derived.Laws.AppendOwnNone
import Derived.Test.YtmodofbelpaelaaDoorNormB
import Derived.Test.YtmodofbelpaelaaDoorCutF
import Derived.Laws.MakeOwn
import Derived.Deep.RegionHeldLaw
import Derived.Test.YtmodofbelpaelaaDoorLawA
import Derived.Deep.AppendLies
namespace Go.Proofs.YtmodofbelpaelaaDoor
section
open Go.RowKit

/-- where the pieces begin and end, put among days -/
def cutsS (l : List (Pc Unit)) (o : List Int) : List Int := l.foldl (fun o p => putL (putL o p.f) p.t) o
theorem cutsS_snoc {l : List (Pc Unit)} {k : Nat} {p : Pc Unit} {o : List Int} (hp : l[k]? = some p) : cutsS (l.take (k + 1)) o = putL (putL (cutsS (l.take k) o) p.f) p.t := by
  unfold cutsS
  rw [take_snoc hp, List.foldl_append]; rfl
theorem cutsS_len (l : List (Pc Unit)) (o : List Int) : (cutsS l o).length ≤ o.length + 2 * l.length := by
  induction l generalizing o with
  | nil => exact Nat.le_refl _
  | cons p r ih =>
    have h := ih (putL (putL o p.f) p.t)
    have h1 := putL_len (putL o p.f) p.t
    have h2 := putL_len o p.f
    show (cutsS r (putL (putL o p.f) p.t)).length ≤ _
    rw [List.length_cons]
    omega
theorem cutsS_rise {l : List (Pc Unit)} {o : List Int} (h : o.Pairwise (· < ·)) : (cutsS l o).Pairwise (· < ·) := by
  induction l generalizing o with
  | nil => exact h
  | cons p r ih => exact ih (putL_rise (putL_rise h))
theorem cutsS_mem {l : List (Pc Unit)} {o : List Int} {x : Int} : x ∈ cutsS l o ↔ x ∈ o ∨ ∃ p ∈ l, x = p.f ∨ x = p.t := by
  induction l generalizing o with
  | nil => simp [cutsS]
  | cons p r ih =>
    show x ∈ cutsS r (putL (putL o p.f) p.t) ↔ _
    rw [ih, putL_mem, putL_mem]
    constructor
    · rintro ((h | h | h) | ⟨q, hq, h⟩)
      · exact .inr ⟨p, List.mem_cons_self .., .inr h⟩
      · exact .inr ⟨p, List.mem_cons_self .., .inl h⟩
      · exact .inl h
      · exact .inr ⟨q, List.mem_cons_of_mem _ hq, h⟩
    · rintro (h | ⟨q, hq, h⟩)
      · exact .inl (.inr (.inr h))
      · rcases List.mem_cons.1 hq with rfl | hq
        · rcases h with h | h
          · exact .inl (.inr (.inl h))
          · exact .inl (.inl h)
        · exact .inr ⟨q, hq, h⟩


theorem hasB_val (l : List (Pc Unit)) (n : Int) : hasB l n = (valL l n).isSome := by
  have h1 := hasB_iff (l := l) (n := n)
  have h2 := valL_some (l := l) (n := n)
  cases e : hasB l n <;> cases e2 : (valL l n).isSome <;> simp_all

/-- in both -/
def bothG (a b : List (Pc Unit)) (n : Int) : Option Unit := if hasB a n && hasB b n then some () else none

theorem both_spec {M : Int} {a b : List (Pc Unit)} {ds : List Int} (hv : ∀ p ∈ a ++ b, ValidS M p) (hr : ds.Pairwise (· < ·)) (hm : ∀ x, x ∈ ds ↔ ∃ p ∈ a ++ b, x = p.f ∨ x = p.t) : (∀ p ∈ joinP (bothG a b) ds, ValidS M p) ∧ ∀ n, hasD (joinP (bothG a b) ds) n ↔ (hasD a n ∧ hasD b n) := by
  have hge : ∀ x ∈ ds, 0 ≤ x ∧ x ≤ M := fun x hx => by
    obtain ⟨p, hp, e⟩ := (hm x).1 hx
    obtain ⟨h1, h2, h3⟩ := hv p hp
    omega
  have hval : ∀ n, valL (joinP (bothG a b) ds) n = bothG a b n := fun n => by
    have hout : (∀ p ∈ a ++ b, ¬ (p.f ≤ n ∧ n < p.t)) → bothG a b n = none := fun h => by
      have h1 : ¬ hasB a n = true := fun e => by obtain ⟨p, hp, hh⟩ := hasB_iff.1 e; exact h p (List.mem_append.2 (.inl hp)) hh
      unfold bothG
      simp [h1]
    cases ds with
    | nil =>
      refine (hout (fun p hp _ => ?_)).symm
      have := (hm p.f).2 ⟨p, hp, .inl rfl⟩
      cases this
    | cons x0 r =>
      have hj := joinP_rise (g := bothG a b) hr
      by_cases hn : x0 ≤ n
      · by_cases he : ∃ y ∈ r, n < y
        · refine joinP_val hr (fun x k hx hxk hno => ?_) hn he
          have e1 : valL a k = valL a x := valL_same hxk (fun p hp => ⟨fun hh => hno p.f ((hm _).2 ⟨p, List.mem_append.2 (.inl hp), .inl rfl⟩) hh, fun hh => hno p.t ((hm _).2 ⟨p, List.mem_append.2 (.inl hp), .inr rfl⟩) hh⟩)
          have e2 : valL b k = valL b x := valL_same hxk (fun p hp => ⟨fun hh => hno p.f ((hm _).2 ⟨p, List.mem_append.2 (.inr hp), .inl rfl⟩) hh, fun hh => hno p.t ((hm _).2 ⟨p, List.mem_append.2 (.inr hp), .inr rfl⟩) hh⟩)
          unfold bothG
          rw [hasB_val, hasB_val, hasB_val, hasB_val, e1, e2]
        · have hall : ∀ x ∈ x0 :: r, x ≤ n := fun x hx => by
            rcases List.mem_cons.1 hx with rfl | hx
            · exact hn
            · exact Int.not_lt.1 (fun h => he ⟨x, hx, h⟩)
          rw [UpTo.none (M := n) (joinP_upTo hall) (Int.le_refl _), hout (fun p hp hh => by
            have := hall p.t ((hm _).2 ⟨p, hp, .inr rfl⟩)
            omega)]
      · rw [Rise.none hj (by omega), hout (fun p hp hh => by
          have hx := (hm p.f).2 ⟨p, hp, .inl rfl⟩
          rcases List.mem_cons.1 hx with e | hx
          · omega
          · have := (List.pairwise_cons.1 hr).1 p.f hx; omega)]
  refine ⟨fun p hp => ?_, fun n => ?_⟩
  · cases ds with
    | nil => cases hp
    | cons x0 r =>
      have hj := joinP_rise (g := bothG a b) hr
      have hu : UpTo M (joinP (bothG a b) (x0 :: r)) := joinP_upTo (fun x hx => (hge x hx).2)
      have h0 := hge x0 (List.mem_cons_self ..)
      have h1 := hj.mem hp
      exact ⟨by omega, h1.2, hu p hp⟩
  · rw [← valL_some, hval n, ← hasB_iff, ← hasB_iff]
    unfold bothG
    cases hasB a n <;> cases hasB b n <;> simp

theorem joinP_end {γ : Type} {g : Int → Option γ} {ds : List Int} {k : Nat} (h : ds.length ≤ k + 1) : joinP g (ds.drop k) = [] := by
  have h1 : (ds.drop k).length ≤ 1 := by rw [List.length_drop]; omega
  generalize ds.drop k = e at h1
  match e with
  | [] => rfl
  | [a] => rfl
  | a :: b :: r => simp at h1

theorem own_base2 {α : Type} {enc : α → List Value} {size : Nat} {e base base' : Nat} {w : World} {v : Value} {l : List α} (h : Own enc size e base w v l) (hb : base' ≤ base) : Own enc size e base' w v l := ⟨h.1, h.2.imp id fun ⟨g, cap, cur, h1, h2, h3⟩ => ⟨g, cap, cur, h1, Nat.le_trans hb h2, h3⟩⟩
end

section
open Go.RowKit

/-- 'append' onto a slice of the call's own, any source -/
theorem wpList_append_any {P : Program} {ops : Array Oper} {rest : List Oper} {o : Oper} {a : Act} {w : World} {Q : Exit → Act → World → Prop} (hgd : o.guard = none) (s x : Operand) (t : TypeId)
    (ho : o.op = .call { callee := .builtin .append, args := #[s, x], argTypes := #[t, t] })
    (base : Nat) (e : TypeId) (i : TypeInfo) (z : Value) (size bytes : Nat) (ht : P.underlying t = some (.slice e)) (hi : P.info? e = some i) (hz : i.zero = some z)
    (hsize : i.size = size) (hby : i.bytes = bytes) (hzs : z.cells.size = size) (hsz : 0 < size)
    (v : Value) (n : Nat) (xs : List Value) (hs : a.eval s = v) (hown : w.ownsRow base e size v n xs)
    (A : Option Addr) (m c : Nat) (news : List Value) (hx : a.eval x = .slice A m c) (hl : news.length = m * size) (hnews : ∀ ad, A = some ad → ∀ j u, news[j]? = some u → w.cell? (ad.add j) = some u) (hA : A = none → m = 0 ∧ c = 0) (h1 : ∀ u ∈ news, u.oneCell' = true)
    (h63 : n + m ≤ maxLen) (hbytes : (n + m) * bytes ≤ 140737488355328) (hbase : base ≤ w.heap.size)
    (h : ∀ v' w', w'.ownsRow base e size v' (n + m) (xs ++ news) → w.grownBy w' v.ownBlock → wpList P ops Q rest (a.put o.dst v') w') : wpList P ops Q (o :: rest) a w := by
  refine wpList_plain hgd fun K hK => ?_
  cases A with
  | some ad => exact wp_append_own w s x t ho base e i z size bytes ht hi hz hsize hby hzs hsz v n xs hs hown ad m c news hx hl (hnews ad rfl) h1 h63 hbytes hbase fun v' w' h2 h3 _ => hK _ _ (h v' w' h2 h3)
  | none =>
    obtain ⟨rfl, rfl⟩ := hA rfl
    have hrun := run_append_owned_none (P := P) (w := w) base t o.type e i size ht hi v n xs hown
    obtain rfl : news = [] := List.eq_nil_of_length_eq_zero (by simpa using hl)
    unfold Oper.wp
    simp [execOp, ho, resolve, invoke, builtin, hs, hx, hrun, Result.andThen]
    exact hK _ _ (h _ _ (by simpa using hown) ⟨rfl, rfl, rfl, Nat.le_refl _, fun _ _ _ => rfl⟩)

set_option maxRecDepth 10000 in
set_option maxHeartbeats 4000000 in
theorem hasR_any (r : List (Pc Unit)) (A : Option Addr) (c : Nat) (n : Int) (w : World) (hl : RowAt encU 2 w w.heap.size A r) (hm : r.length ≤ 1000000) :
    Calls Tryd.prog 122 #[.slice A r.length c, .int .i64 n] w fun e w' => e = .returned (.bool (hasB r n)) ∧ Below w.heap.size w w' := by
  have HL := Lib.hid hl
  clear hl
  go_enter Tryd.func122, Tryd.ntmps122
  go_wp2_with fail
  go_loopw [5] (fun i wr => ∃ k : Nat, k ≤ r.length ∧ Hid (hasB (r.drop k) n = hasB r n) ∧ i = .int .i64 k ∧ Below w.heap.size w wr) (fun i _ => r.length - (intOf i).toNat)
  case atStart => exact ⟨0, Nat.zero_le _, rfl, rfl, by (repeat' (first | with_reducible exact Below.refl _ _ | with_reducible assumption | with_reducible refine Below.drew ?_ | with_reducible refine below_drewN ?_ _ | with_reducible refine Below.setCell ?_ ?_ _ | with_reducible refine Below.alloc ?_ ?_ _ | omega | (simp; done) | (simp; omega)))⟩
  case round =>
    obtain ⟨k, hk, hj, rfl, hwr⟩ := hrel
    have z0 := hwr.size
    by_cases hlt : k < r.length
    · obtain ⟨p, hp⟩ : ∃ p, r[k]? = some p := ⟨r[k], List.getElem?_eq_getElem hlt⟩
      obtain ⟨g, off, rfl, hg, j0, j1⟩ := cells2 (HL.out.below hwr (Nat.le_refl _)) hp
      have hlt2 : (k : Int) < (r.length : Int) := by omega
      have hd := hasB_drop (n := n) hp
      by_cases hf : p.f ≤ n
      · have e0 : decide (p.f ≤ n) = true := decide_eq_true hf
        by_cases hn : n < p.t
        · have e1 : decide (n < p.t) = true := decide_eq_true hn
          have HR : Hid (hasB r n = true) := by show _ = _; rw [← hj.out, hd, e0, e1]; rfl
          clear hp hd hn hj hf
          go_wp2_with fail
          go_ret
          exact ⟨by rw [HR.out]; rfl, by (repeat' (first | with_reducible exact Below.refl _ _ | with_reducible assumption | with_reducible refine Below.drew ?_ | with_reducible refine below_drewN ?_ _ | with_reducible refine Below.setCell ?_ ?_ _ | with_reducible refine Below.alloc ?_ ?_ _ | omega | (simp; done) | (simp; omega)))⟩
        · have e1 : decide (n < p.t) = false := decide_eq_false hn
          have HR : Hid (hasB (r.drop (k + 1)) n = hasB r n) := by show _ = _; rw [← hj.out, hd, e0, e1]; rfl
          clear hp hd hn hj hf
          go_wp2_with fail
          go_roundw
          case rel => exact ⟨k + 1, by omega, HR, by go_num, by (repeat' (first | with_reducible exact Below.refl _ _ | with_reducible assumption | with_reducible refine Below.drew ?_ | with_reducible refine below_drewN ?_ _ | with_reducible refine Below.setCell ?_ ?_ _ | with_reducible refine Below.alloc ?_ ?_ _ | omega | (simp; done) | (simp; omega)))⟩
          case measure => simp [intOf]; omega
      · have e0 : decide (p.f ≤ n) = false := decide_eq_false hf
        have HR : Hid (hasB (r.drop (k + 1)) n = hasB r n) := by show _ = _; rw [← hj.out, hd, e0]; rfl
        clear hp hd hj hf
        go_wp2_with fail
        go_roundw
        case rel => exact ⟨k + 1, by omega, HR, by go_num, by (repeat' (first | with_reducible exact Below.refl _ _ | with_reducible assumption | with_reducible refine Below.drew ?_ | with_reducible refine below_drewN ?_ _ | with_reducible refine Below.setCell ?_ ?_ _ | with_reducible refine Below.alloc ?_ ?_ _ | omega | (simp; done) | (simp; omega)))⟩
        case measure => simp [intOf]; omega
    · obtain rfl : k = r.length := by omega
      have HR : Hid (hasB r n = false) := by show _ = _; rw [← hj.out, List.drop_length]; rfl
      go_wp2_with fail
      go_ret
      exact ⟨by rw [HR.out]; rfl, hwr⟩

set_option maxRecDepth 10000 in
set_option maxHeartbeats 4000000 in
theorem cutsD_any (a b : List (Pc Unit)) (A B : Option Addr) (c d : Nat) (w : World) (ha : RowAt encU 2 w w.heap.size A a) (hb : RowAt encU 2 w w.heap.size B b) (h1 : a.length ≤ 5000) (h2 : b.length ≤ 5000) (hB : B = none → d = 0) :
    Calls Tryd.prog 121 #[.slice A a.length c, .slice B b.length d] w fun e w' => (∃ v', e = .returned v' ∧ Own encI 1 3 w.heap.size w' v' (cutsS (a ++ b) [])) ∧ Below w.heap.size w w' := by
  obtain ⟨inf0, hi, jz0, jz1, jz2⟩ := info_parts infoSp
  have HA := Lib.hid ha
  have HBN : Hid (B = none → b.length = 0 ∧ d = 0) := fun h => by
    refine ⟨?_, hB h⟩
    cases b with
    | nil => rfl
    | cons p r => obtain ⟨_, _, e, _⟩ := hb 0 p rfl; rw [h] at e; cases e
  have HF := Lib.hid (fun w' (h : Below w.heap.size w w') => rowFlat encU_len (by decide) (hb.below h (Nat.le_refl _)))
  have H1 := Lib.hid (encU_one b)
  have HN := Lib.hid (encU_flat b)
  clear ha hb hB
  go_enter Tryd.func121, Tryd.ntmps121
  go_wp2_with fail
  refine (spansC_any a a.length A c _ rfl HA.out (by omega)).mono ?_
  rintro e w1 ⟨v1, rfl, hown1, hb1⟩
  have hw1 : Below w.heap.size w w1 := hb1
  have z1 := hw1.size
  have HO1 := Lib.hid hown1
  clear hb1 hown1
  go_wp2_with (at_builtin; go_must (refine wpList_append_any rfl (.tmp 9) (.tmp 10) 59 rfl w.heap.size 91 inf0 _ 2 16 Tryd.underlying59 hi jz0 jz1 jz2 rfl (by decide) _ a.length _ rfl HO1.out B b.length d (b.flatMap encU) rfl HN.out (HF.out _ hw1) HBN.out H1.out (by unfold maxLen; omega) (by omega) z1 ?_); intro v2 w2 hown2 hgrow2)
  have hw2 : Below w.heap.size w w2 := Below.grown hw1 hgrow2 z1 (fun g hg => (HO1.out.lt g hg).1)
  have z2 := hw2.size
  have hO2 : Own encU 2 91 w.heap.size w2 v2 (a ++ b) := by unfold Own; rw [List.length_append, List.flatMap_append]; exact hown2
  obtain ⟨l, hl⟩ : ∃ l, a ++ b = l := ⟨_, rfl⟩
  rw [hl] at hO2
  have HLL := Lib.hid hl
  have hll : l.length ≤ 10000 := by rw [← hl, List.length_append]; omega
  obtain ⟨A2, c2, rfl, hr2, _, _⟩ := own_line (fun x _ => encU_len x) hO2
  have HR := Lib.hid hr2
  clear hown2 hgrow2 hO2 hr2 hl
  go_wp2_with fail
  go_loopw [5, 7] (fun u i wr => ∃ k : Nat, k ≤ l.length ∧ i = .int .i64 k ∧ Hid (Own encI 1 3 w2.heap.size wr u (cutsS (l.take k) [])) ∧ Below w2.heap.size w2 wr) (fun _ i _ => l.length - (intOf i).toNat)
  case atStart => exact ⟨0, Nat.zero_le _, rfl, Own.nil, Below.refl _ _⟩
  case round =>
    obtain ⟨k, hk, rfl, HU, hw0⟩ := hrel
    have z0 := hw0.size
    have hlen := cutsS_len (l.take k) []
    rw [List.length_take, Nat.min_eq_left hk, List.length_nil] at hlen
    by_cases hlt : k < l.length
    · obtain ⟨p, hp⟩ : ∃ p, l[k]? = some p := ⟨l[k], List.getElem?_eq_getElem hlt⟩
      obtain ⟨g, off, rfl, hg, j0, j1⟩ := cells2 (HR.out.below hw0 (Nat.le_refl _)) hp
      have hlt2 : (k : Int) < (l.length : Int) := by omega
      have HP := Lib.hid hp
      clear hp
      go_wp2_with fail
      refine (put6_any (cutsS (l.take k) []) p.f _ w2.heap.size wr (by omega) HU.out (by omega)).mono ?_
      rintro e w3 ⟨⟨v3, rfl, hown3⟩, hb3⟩
      have hw3 : Below w2.heap.size w2 w3 := hw0.trans hb3
      have z3 := hw3.size
      have HO3 := Lib.hid hown3
      have hlen1 := putL_len (cutsS (l.take k) []) p.f
      have j1' : w3.cell? ⟨g, off + k * 2 + 1, none⟩ = some (.int .i64 p.t) := (hb3.cell (p := ⟨g, off + k * 2 + 1, none⟩) hg).trans j1
      clear hb3 hown3 j0 j1
      go_wp2_with fail
      refine (put6_any (putL (cutsS (l.take k) []) p.f) p.t _ w2.heap.size w3 (by omega) HO3.out (by omega)).mono ?_
      rintro e w4 ⟨⟨v4, rfl, hown4⟩, hb4⟩
      have hw4 : Below w2.heap.size w2 w4 := hw3.trans hb4
      have HO4 := Lib.hid hown4
      clear hb4 hown4 j1'
      go_wp2_with fail
      go_roundw
      case rel => exact ⟨k + 1, by omega, by go_num, by rw [cutsS_snoc HP.out]; exact HO4, hw4⟩
      case measure => simp [intOf]; omega
    · obtain rfl : k = l.length := by omega
      go_wp2_with fail
      go_ret
      refine ⟨⟨_, rfl, ?_⟩, hw2.trans (hw0.mono z2)⟩
      have h := HU.out
      rw [List.take_length, ← HLL.out] at h
      exact own_base2 h z2

set_option maxRecDepth 10000 in
set_option maxHeartbeats 8000000 in
theorem both2_any (a b : List (Pc Unit)) (A B : Option Addr) (c d : Nat) (w : World) (ha : RowAt encU 2 w w.heap.size A a) (hb : RowAt encU 2 w w.heap.size B b) (h1 : a.length ≤ 5000) (h2 : b.length ≤ 5000) (hB : B = none → d = 0) (hv : ∀ p ∈ a ++ b, ValidS MD p) :
    Calls Tryd.prog 85 #[.slice A a.length c, .slice B b.length d, .int .i64 2] w fun e w' => (∃ A' c' r, e = .returned (.slice A' r.length c') ∧ RowAt encU 2 w' w'.heap.size A' r ∧ (∀ x, A' = some x → w.heap.size ≤ x.block) ∧ Canon MD r ∧ (∀ n, hasD r n ↔ (hasD a n ∧ hasD b n)) ∧ r.length ≤ 2 * (a.length + b.length)) ∧ Below w.heap.size w w' := by
  obtain ⟨inf0, hi, jz0, jz1, jz2⟩ := info_parts infoSp
  have HA := Lib.hid ha
  have HB := Lib.hid hb
  obtain ⟨ds, hds⟩ : ∃ ds, cutsS (a ++ b) [] = ds := ⟨_, rfl⟩
  have HSP := Lib.hid (both_spec (ds := ds) hv (by rw [← hds]; exact cutsS_rise List.Pairwise.nil) (fun x => by rw [← hds, cutsS_mem]; simp))
  have hdl : ds.length ≤ 2 * (a.length + b.length) := by have h := cutsS_len (a ++ b) []; rw [hds, List.length_nil, List.length_append] at h; omega
  have HDS := Lib.hid hds
  have HAH := Lib.hid (fun (n : Int) (w' : World) (h : Below w.heap.size w w') => hasR_any a A c n w' ((ha.below h (Nat.le_refl _)).more h.size) (by omega))
  have HBH := Lib.hid (fun (n : Int) (w' : World) (h : Below w.heap.size w w') => hasR_any b B d n w' ((hb.below h (Nat.le_refl _)).more h.size) (by omega))
  clear ha hb hds hv
  go_enter Tryd.func85, Tryd.ntmps85
  go_wp2_with fail
  refine (cutsD_any a b A B c d _ HA.out HB.out h1 h2 hB).mono ?_
  rintro e w1 ⟨⟨v1, rfl, hown1⟩, hb1⟩
  rw [HDS.out] at hown1
  obtain ⟨A1, c1, rfl, hr1, _, _⟩ := own_line (fun x _ => encI_len x) hown1
  have hoff : ∀ a, A1 = some a → a.off = 0 := fun a ha => by
    rcases hown1.2 with ⟨h, _⟩ | ⟨g, cp, cur, h, _⟩
    · injection h with h1; rw [ha] at h1; cases h1
    · injection h with h1; rw [ha] at h1; cases h1; rfl
  have hw1 : Below w.heap.size w w1 := hb1
  have z1 := hw1.size
  have HD := Lib.hid hr1
  clear hb1 hown1 hr1 hB
  go_wp2_with fail
  go_loopw [8, 9] (fun u i wr => ∃ (k : Nat) (out : List (Pc Unit)), out.length ≤ k ∧ (k = 0 ∨ k < ds.length) ∧ i = .int .i64 k ∧ Own encU 2 91 w1.heap.size wr u out ∧ Hid (out ++ joinP (bothG a b) (ds.drop k) = joinP (bothG a b) ds) ∧ Below w1.heap.size w1 wr) (fun _ i _ => ds.length - (intOf i).toNat)
  case atStart => exact ⟨0, [], Nat.le_refl _, .inl rfl, rfl, Own.nil, Lib.hid (by rw [List.drop_zero]; rfl), Below.refl _ _⟩
  case round =>
    obtain ⟨k, out, ho, hk, rfl, hown, hJ, hwr⟩ := hrel
    have zr := hwr.size
    have hw0 : Below w.heap.size w wr := stepH hw1 hwr
    have HO := Lib.hid hown
    by_cases hlt : k + 1 < ds.length
    · obtain ⟨x, hx⟩ : ∃ x, ds[k]? = some x := ⟨ds[k], List.getElem?_eq_getElem (by omega)⟩
      obtain ⟨y, hy⟩ : ∃ y, ds[k + 1]? = some y := ⟨ds[k + 1], List.getElem?_eq_getElem hlt⟩
      obtain ⟨gd, od, e0, hgl, hca0⟩ := HD.out k x hx
      subst e0
      obtain rfl : od = 0 := hoff _ rfl
      obtain ⟨_, _, e1, _, hca⟩ := (HD.out.below hwr (Nat.le_refl _)) k x hx
      cases e1
      obtain ⟨_, _, e1, _, hcb⟩ := (HD.out.below hwr (Nat.le_refl _)) (k + 1) y hy
      cases e1
      have k0 : wr.cell? ⟨gd, k, none⟩ = some (.int .i64 x) := by have := hca 0 _ rfl; simpa using this
      have k1 : wr.cell? ⟨gd, k + 1, none⟩ = some (.int .i64 y) := by have := hcb 0 _ rfl; simpa using this
      have hlt2 : (k : Int) + 1 < (ds.length : Int) := by omega
      have i1 : (k : Int) < (ds.length : Int) := by omega
      have i4 : ((k : Int) + 1).toNat = k + 1 := by omega
      have i6 : ((k : Int)).toNat = k := by omega
      have i7 : IntKind.i64.wrap ((k : Int) + 1) = (k : Int) + 1 := by rw [IntKind.wrap_i64]; omega
      have i8 : (0 : Int) ≤ (k : Int) + 1 := by omega
      obtain ⟨ba, hba⟩ : ∃ v, hasB a x = v := ⟨_, rfl⟩
      obtain ⟨bb, hbb⟩ : ∃ v, hasB b x = v := ⟨_, rfl⟩
      have HX := Lib.hid hx
      have HY := Lib.hid hy
      have HBA := Lib.hid hba
      have HBB := Lib.hid hbb
      have HG : Hid (bothG a b x = if ba && bb then some () else none) := by show _ = _; unfold bothG; rw [hba, hbb]
      clear hca hca0 hcb hx hy hown hba hbb
      cases ba <;> cases bb
      · skip
        go_wp2_with fail
        refine (HAH.out x _ (by (repeat' (first | with_reducible exact Below.refl _ _ | with_reducible assumption | with_reducible refine Below.drew ?_ | with_reducible refine below_drewN ?_ _ | with_reducible refine Below.setCell ?_ ?_ _ | with_reducible refine Below.alloc ?_ ?_ _ | omega | (simp; done) | (simp; omega))))).mono ?_
        rintro e w2 ⟨rfl, hb2⟩
        rw [HBA.out]
        have hr2 : Below w1.heap.size w1 w2 := stepH hwr hb2
        have hw2 : Below w.heap.size w w2 := stepH hw0 hb2
        have HO2 := Lib.hid (own_below HO.out hb2)
        replace k0 := cellOf hb2 k0
        replace k1 := cellOf hb2 k1
        clear hb2
        go_wp2_with fail
        refine (HBH.out x _ (by (repeat' (first | with_reducible exact Below.refl _ _ | with_reducible assumption | with_reducible refine Below.drew ?_ | with_reducible refine below_drewN ?_ _ | with_reducible refine Below.setCell ?_ ?_ _ | with_reducible refine Below.alloc ?_ ?_ _ | omega | (simp; done) | (simp; omega))))).mono ?_
        rintro e w3 ⟨rfl, hb3⟩
        rw [HBB.out]
        have hr3 : Below w1.heap.size w1 w3 := stepH hr2 hb3
        have hw3 : Below w.heap.size w w3 := stepH hw2 hb3
        have z3 := hr3.size
        have HO3 := Lib.hid (own_below HO2.out hb3)
        replace k0 := cellOf hb3 k0
        replace k1 := cellOf hb3 k1
        clear hb3 HO2 HO
        have hJ2 := Lib.hid (joinP_none HX.out HY.out HG.out)
        go_wp2_with fail
        go_roundw
        case rel => exact ⟨k + 1, out, by omega, .inr hlt, by go_num, HO3.out, by rw [← hJ2.out]; exact hJ, hr3⟩
        case measure => simp [intOf]; omega
      · skip
        go_wp2_with fail
        refine (HAH.out x _ (by (repeat' (first | with_reducible exact Below.refl _ _ | with_reducible assumption | with_reducible refine Below.drew ?_ | with_reducible refine below_drewN ?_ _ | with_reducible refine Below.setCell ?_ ?_ _ | with_reducible refine Below.alloc ?_ ?_ _ | omega | (simp; done) | (simp; omega))))).mono ?_
        rintro e w2 ⟨rfl, hb2⟩
        rw [HBA.out]
        have hr2 : Below w1.heap.size w1 w2 := stepH hwr hb2
        have hw2 : Below w.heap.size w w2 := stepH hw0 hb2
        have HO2 := Lib.hid (own_below HO.out hb2)
        replace k0 := cellOf hb2 k0
        replace k1 := cellOf hb2 k1
        clear hb2
        go_wp2_with fail
        refine (HBH.out x _ (by (repeat' (first | with_reducible exact Below.refl _ _ | with_reducible assumption | with_reducible refine Below.drew ?_ | with_reducible refine below_drewN ?_ _ | with_reducible refine Below.setCell ?_ ?_ _ | with_reducible refine Below.alloc ?_ ?_ _ | omega | (simp; done) | (simp; omega))))).mono ?_
        rintro e w3 ⟨rfl, hb3⟩
        rw [HBB.out]
        have hr3 : Below w1.heap.size w1 w3 := stepH hr2 hb3
        have hw3 : Below w.heap.size w w3 := stepH hw2 hb3
        have z3 := hr3.size
        have HO3 := Lib.hid (own_below HO2.out hb3)
        replace k0 := cellOf hb3 k0
        replace k1 := cellOf hb3 k1
        clear hb3 HO2 HO
        have hJ2 := Lib.hid (joinP_none HX.out HY.out HG.out)
        go_wp2_with fail
        go_roundw
        case rel => exact ⟨k + 1, out, by omega, .inr hlt, by go_num, HO3.out, by rw [← hJ2.out]; exact hJ, hr3⟩
        case measure => simp [intOf]; omega
      · skip
        go_wp2_with fail
        refine (HAH.out x _ (by (repeat' (first | with_reducible exact Below.refl _ _ | with_reducible assumption | with_reducible refine Below.drew ?_ | with_reducible refine below_drewN ?_ _ | with_reducible refine Below.setCell ?_ ?_ _ | with_reducible refine Below.alloc ?_ ?_ _ | omega | (simp; done) | (simp; omega))))).mono ?_
        rintro e w2 ⟨rfl, hb2⟩
        rw [HBA.out]
        have hr2 : Below w1.heap.size w1 w2 := stepH hwr hb2
        have hw2 : Below w.heap.size w w2 := stepH hw0 hb2
        have HO2 := Lib.hid (own_below HO.out hb2)
        replace k0 := cellOf hb2 k0
        replace k1 := cellOf hb2 k1
        clear hb2
        go_wp2_with fail
        refine (HBH.out x _ (by (repeat' (first | with_reducible exact Below.refl _ _ | with_reducible assumption | with_reducible refine Below.drew ?_ | with_reducible refine below_drewN ?_ _ | with_reducible refine Below.setCell ?_ ?_ _ | with_reducible refine Below.alloc ?_ ?_ _ | omega | (simp; done) | (simp; omega))))).mono ?_
        rintro e w3 ⟨rfl, hb3⟩
        rw [HBB.out]
        have hr3 : Below w1.heap.size w1 w3 := stepH hr2 hb3
        have hw3 : Below w.heap.size w w3 := stepH hw2 hb3
        have z3 := hr3.size
        have HO3 := Lib.hid (own_below HO2.out hb3)
        replace k0 := cellOf hb3 k0
        replace k1 := cellOf hb3 k1
        clear hb3 HO2 HO
        have hJ2 := Lib.hid (joinP_none HX.out HY.out HG.out)
        go_wp2_with fail
        go_roundw
        case rel => exact ⟨k + 1, out, by omega, .inr hlt, by go_num, HO3.out, by rw [← hJ2.out]; exact hJ, hr3⟩
        case measure => simp [intOf]; omega
      · skip
        go_wp2_with fail
        refine (HAH.out x _ (by (repeat' (first | with_reducible exact Below.refl _ _ | with_reducible assumption | with_reducible refine Below.drew ?_ | with_reducible refine below_drewN ?_ _ | with_reducible refine Below.setCell ?_ ?_ _ | with_reducible refine Below.alloc ?_ ?_ _ | omega | (simp; done) | (simp; omega))))).mono ?_
        rintro e w2 ⟨rfl, hb2⟩
        rw [HBA.out]
        have hr2 : Below w1.heap.size w1 w2 := stepH hwr hb2
        have hw2 : Below w.heap.size w w2 := stepH hw0 hb2
        have HO2 := Lib.hid (own_below HO.out hb2)
        replace k0 := cellOf hb2 k0
        replace k1 := cellOf hb2 k1
        clear hb2
        go_wp2_with fail
        refine (HBH.out x _ (by (repeat' (first | with_reducible exact Below.refl _ _ | with_reducible assumption | with_reducible refine Below.drew ?_ | with_reducible refine below_drewN ?_ _ | with_reducible refine Below.setCell ?_ ?_ _ | with_reducible refine Below.alloc ?_ ?_ _ | omega | (simp; done) | (simp; omega))))).mono ?_
        rintro e w3 ⟨rfl, hb3⟩
        rw [HBB.out]
        have hr3 : Below w1.heap.size w1 w3 := stepH hr2 hb3
        have hw3 : Below w.heap.size w w3 := stepH hw2 hb3
        have z3 := hr3.size
        have HO3 := Lib.hid (own_below HO2.out hb3)
        replace k0 := cellOf hb3 k0
        replace k1 := cellOf hb3 k1
        clear hb3 HO2 HO
        have HJ : Hid ((out ++ [(⟨x, y, ()⟩ : Pc Unit)]) ++ joinP (bothG a b) (ds.drop (k + 1)) = joinP (bothG a b) ds) := by show _ = _; rw [← hJ.out, joinP_some HX.out HY.out (HG.out : _ = some ())]; simp
        have hon : out.length ≤ 100000 := by omega
        go_wp2_with fail
        go_region_held_law (fun w' => w'.cell? ⟨gd, k, none⟩ = some (.int .i64 x) ∧ w'.cell? ⟨gd, k + 1, none⟩ = some (.int .i64 y)) (first | with_reducible exact ⟨k0, k1⟩ | go_keep | exact ⟨(World.grownBy.cell_far hgrow9 ⟨gd, k, none⟩ (by simp; omega) (fun e => by have h9 := (HO3.out.lt _ e.symm).1; dsimp only at h9; omega)).trans (cell_drew (cell_alloc k0)), (World.grownBy.cell_far hgrow9 ⟨gd, k + 1, none⟩ (by simp; omega) (fun e => by have h9 := (HO3.out.lt _ e.symm).1; dsimp only at h9; omega)).trans (cell_drew (cell_alloc k1))⟩)
          ((refine step_append_any (by rfl) (.tmp 53) (.tmp 64) 59 (by rfl) w1.heap.size 91 inf0 _ 2 16 Tryd.underlying59 hi jz0 jz1 jz2 rfl (by decide) _ out.length _ (by rfl) ((HO3.out.alloc _).drew) (some ⟨w3.heap.size, 0, none⟩) 1 1 [.int .i64 x, .int .i64 y] (by rfl) rfl (fun ad ha j u hj => by cases ha; exact cell_drew (World.news_of_block (cs := #[.int .i64 x, .int .i64 y]) (blk_new rfl) j u hj)) (fun h => by cases h) (by simp [Value.oneCell']) (by unfold maxLen; omega) (by omega) (by simp; omega) ?_; intro v' w9 hown9 hgrow9))
        go_wp2_with fail
        go_roundw
        case rel => exact ⟨k + 1, out ++ [⟨x, y, ()⟩], (by simp only [List.length_append, List.length_cons, List.length_nil]; omega), .inr hlt, by go_num, Own.snoc hown9 rfl rfl, HJ, Below.grown (by (repeat' (first | with_reducible exact Below.refl _ _ | with_reducible assumption | with_reducible refine Below.drew ?_ | with_reducible refine below_drewN ?_ _ | with_reducible refine Below.setCell ?_ ?_ _ | with_reducible refine Below.alloc ?_ ?_ _ | omega | (simp; done) | (simp; omega)))) hgrow9 (by simp; omega) (fun g hg => (HO3.out.lt g hg).1)⟩
        case measure => simp [intOf]; omega
    · have HE : Hid (out = joinP (bothG a b) ds) := by show _ = _; rw [← hJ.out, joinP_end (by omega), List.append_nil]
      obtain ⟨A2, c2, rfl, hr2, _, _⟩ := own_line (fun x _ => encU_len x) HO.out
      have HR2 := Lib.hid hr2
      have hol : out.length ≤ 100000 := by rcases hk with h | h <;> omega
      have hol2 : out.length ≤ 2 * (a.length + b.length) := by rcases hk with h | h <;> omega
      have hlt2 : ¬ (k : Int) + 1 < (ds.length : Int) := by omega
      have i7 : IntKind.i64.wrap ((k : Int) + 1) = (k : Int) + 1 := by rw [IntKind.wrap_i64]; omega
      have HVO : Hid (∀ p ∈ out, ValidS MD p) := by show ∀ p ∈ out, _; rw [HE.out]; exact HSP.out.1
      clear hr2 HO hJ hown
      go_wp2_with fail
      refine (normS_any out A2 c2 _ HR2.out (by omega) HVO.out).mono ?_
      rintro e w6 ⟨⟨A6, c6, r6, rfl, hr6, _, hB6, hset6⟩, hb6⟩
      have hw6 : Below w.heap.size w w6 := stepH hw0 hb6
      have HR6 := Lib.hid hr6
      have HS6 := Lib.hid hset6
      clear hb6 hr6 hset6
      go_wp2_with fail
      go_ret
      exact ⟨⟨A6, c6, r6, rfl, HR6.out, fun x hx => by have h := hB6 x hx; have := hw0.size; omega, HS6.out.canon, fun n => by rw [HS6.out.has n, HE.out]; exact HSP.out.2 n, Nat.le_trans HS6.out.len hol2⟩, hw6⟩
end

section
open Go.RowKit

set_option maxRecDepth 10000 in
set_option maxHeartbeats 8000000 in
theorem norm6_new (l : List (Pc Int)) (A : Option Addr) (c : Nat) (w : World) (hl : RowAt encP 3 w w.heap.size A l) (hm : l.length ≤ 200000) (hv : ∀ p ∈ l, ValidP MD p) :
    Calls Tryd.prog 77 #[.slice A l.length c] w fun e w' => (∃ A' c' r, e = .returned (.slice A' r.length c') ∧ RowAt encP 3 w' w'.heap.size A' r ∧ (A' = none → c' = 0) ∧ Made MD l r) ∧ Below w.heap.size w w' := by
  obtain ⟨inf0, hi, jz0, jz1, jz2⟩ := info_parts infoR6
  have HL := Lib.hid hl
  have HAT := Lib.hid (fun (n : Int) (w' : World) (h : Below w.heap.size w w') => refAt6_any l A c n w' ((hl.below h (Nat.le_refl _)).more h.size) (by omega))
  obtain ⟨ds, hds⟩ : ∃ ds, cutsR l [] = ds := ⟨_, rfl⟩
  obtain ⟨g0, hg0⟩ : ∃ g0 : Int → Option Int, (fun n => valL l.reverse n) = g0 := ⟨_, rfl⟩
  have hmade : Made MD l (joinedL (joinP g0 ds)) := by
    rw [← hg0, ← hds]
    exact norm_spec hv (cutsR_rise List.Pairwise.nil) (fun x => by rw [cutsR_mem]; simp)
  have HMD := Lib.hid hmade
  have hdl : ds.length ≤ 400000 := by have h := cutsR_len l []; rw [hds, List.length_nil] at h; omega
  have HDS := Lib.hid hds
  have HG := Lib.hid hg0
  clear hl hv hds hg0 hmade
  go_enter Tryd.func77, Tryd.ntmps77
  go_wp2_with fail
  refine (cutsR_any l [] A c (.slice none 0 0) w.heap.size w (Nat.le_refl _) HL.out Own.nil hm (by simp)).mono ?_
  rintro e w1 ⟨⟨v1, rfl, hown1⟩, hb1⟩
  rw [HDS.out] at hown1
  obtain ⟨A1, c1, rfl, hr1, _, _⟩ := own_line (fun x _ => encI_len x) hown1
  have hoff : ∀ a, A1 = some a → a.off = 0 := fun a ha => by
    rcases hown1.2 with ⟨h, _⟩ | ⟨g, cp, cur, h, _⟩
    · injection h with h1; rw [ha] at h1; cases h1
    · injection h with h1; rw [ha] at h1; cases h1; rfl
  have hw1 : Below w.heap.size w w1 := stepH (by (repeat' (first | with_reducible exact Below.refl _ _ | with_reducible assumption | with_reducible refine Below.drew ?_ | with_reducible refine below_drewN ?_ _ | with_reducible refine Below.setCell ?_ ?_ _ | with_reducible refine Below.alloc ?_ ?_ _ | omega | (simp; done) | (simp; omega)))) hb1
  have z1 := hw1.size
  have HD := Lib.hid hr1
  clear hb1 hown1 hr1
  go_wp2_with fail
  go_loopw [4, 5] (fun u i wr => ∃ (k : Nat) (out : List (Pc Int)), out.length ≤ k ∧ (k = 0 ∨ k < ds.length) ∧ i = .int .i64 k ∧ Own encP 3 86 w1.heap.size wr u out ∧ Hid ((out = [] ∧ joinedL (joinP g0 (ds.drop k)) = joinedL (joinP g0 ds)) ∨ ∃ pre q, out = pre ++ [q] ∧ pre ++ jc q (joinP g0 (ds.drop k)) = joinedL (joinP g0 ds)) ∧ Below w1.heap.size w1 wr) (fun _ i _ => ds.length - (intOf i).toNat)
  case atStart => exact ⟨0, [], Nat.le_refl _, .inl rfl, rfl, Own.nil, Lib.hid (.inl ⟨rfl, by rw [List.drop_zero]⟩), Below.refl _ _⟩
  case round =>
    obtain ⟨k, out, ho, hk, rfl, hown, hJ, hwr⟩ := hrel
    have zr := hwr.size
    have hw0 : Below w.heap.size w wr := stepH hw1 hwr
    have HO := Lib.hid hown
    by_cases hlt : k + 1 < ds.length
    · obtain ⟨a, ha⟩ : ∃ a, ds[k]? = some a := ⟨ds[k], List.getElem?_eq_getElem (by omega)⟩
      obtain ⟨b, hb⟩ : ∃ b, ds[k + 1]? = some b := ⟨ds[k + 1], List.getElem?_eq_getElem hlt⟩
      obtain ⟨gd, od, e0, hgl, hca0⟩ := HD.out k a ha
      subst e0
      obtain rfl : od = 0 := hoff _ rfl
      obtain ⟨_, _, e1, _, hca⟩ := (HD.out.below hwr (Nat.le_refl _)) k a ha
      cases e1
      obtain ⟨_, _, e1, _, hcb⟩ := (HD.out.below hwr (Nat.le_refl _)) (k + 1) b hb
      cases e1
      have k0 : wr.cell? ⟨gd, k, none⟩ = some (.int .i64 a) := by have := hca 0 _ rfl; simpa using this
      have k1 : wr.cell? ⟨gd, k + 1, none⟩ = some (.int .i64 b) := by have := hcb 0 _ rfl; simpa using this
      have hlt2 : (k : Int) + 1 < (ds.length : Int) := by omega
      have i1 : (k : Int) < (ds.length : Int) := by omega
      have i4 : ((k : Int) + 1).toNat = k + 1 := by omega
      have i6 : ((k : Int)).toNat = k := by omega
      have i7 : IntKind.i64.wrap ((k : Int) + 1) = (k : Int) + 1 := by rw [IntKind.wrap_i64]; omega
      have HA := Lib.hid ha
      have HB := Lib.hid hb
      obtain ⟨o, ho9⟩ : ∃ o, valL l.reverse a = o := ⟨_, rfl⟩
      have HV := Lib.hid ho9
      have HGA : Hid (g0 a = o) := by show _ = _; rw [← HG.out]; exact ho9
      clear hca hca0 hcb ha hb hown ho9
      cases o with
      | none =>
        go_wp2_with fail
        refine (HAT.out a _ (by (repeat' (first | with_reducible exact Below.refl _ _ | with_reducible assumption | with_reducible refine Below.drew ?_ | with_reducible refine below_drewN ?_ _ | with_reducible refine Below.setCell ?_ ?_ _ | with_reducible refine Below.alloc ?_ ?_ _ | omega | (simp; done) | (simp; omega))))).mono ?_
        rintro e w2 ⟨rfl, hb2⟩
        rw [HV.out]
        have e1 : vB6 none = false := rfl
        have hJ2 := Lib.hid (joinP_none HA.out HB.out HGA.out)
        go_wp2_with fail
        go_roundw
        case rel => exact ⟨k + 1, out, by omega, .inr hlt, by go_num, own_below HO.out hb2, by rw [← hJ2.out]; exact hJ, stepH hwr hb2⟩
        case measure => simp [intOf]; omega
      | some v =>
        have hJ2 := joinP_some HA.out HB.out HGA.out
        go_wp2_with fail
        refine (HAT.out a _ (by (repeat' (first | with_reducible exact Below.refl _ _ | with_reducible assumption | with_reducible refine Below.drew ?_ | with_reducible refine below_drewN ?_ _ | with_reducible refine Below.setCell ?_ ?_ _ | with_reducible refine Below.alloc ?_ ?_ _ | omega | (simp; done) | (simp; omega))))).mono ?_
        rintro e w2 ⟨rfl, hb2⟩
        rw [HV.out]
        have e1 : vB6 (some v) = true := rfl
        have e2 : vN (some v) = v := rfl
        rw [e1, e2]
        have hr2 : Below w1.heap.size w1 w2 := stepH hwr hb2
        have hw2 : Below w.heap.size w w2 := stepH hw0 hb2
        have z2 := hr2.size
        have hown2 := own_below HO.out hb2
        replace k0 := cellOf hb2 k0
        replace k1 := cellOf hb2 k1
        clear hb2 e1 e2
        rw [hJ2] at hJ
        clear hJ2
        rcases hJ.out with ⟨rfl, hj⟩ | ⟨pre, q, rfl, hj⟩
        · obtain ⟨A3, c3, rfl, _, _, _⟩ := own_line (fun x _ => encP_len x) hown2
          have HO2 := Lib.hid hown2
          have HJ : Hid ([] ++ jc ⟨a, b, v⟩ (joinP g0 (ds.drop (k + 1))) = joinedL (joinP g0 ds)) := hj
          have HPL : Hid (([] : List (Pc Int)).length = 0) := rfl
          clear hJ hj hown2
          go_wp2_with fail
          go_quiet (fail)
          go_wp2_with fail
          go_region_held_law (fun w' => w'.cell? ⟨gd, k, none⟩ = some (.int .i64 a) ∧ w'.cell? ⟨gd, k + 1, none⟩ = some (.int .i64 b)) (first | with_reducible exact ⟨k0, k1⟩ | go_keep | exact ⟨(World.grownBy.cell_far hgrow9 ⟨gd, k, none⟩ (by simp; omega) (fun e => by have h9 := (HO2.out.lt _ e.symm).1; dsimp only at h9; omega)).trans (cell_drew (cell_alloc k0)), (World.grownBy.cell_far hgrow9 ⟨gd, k + 1, none⟩ (by simp; omega) (fun e => by have h9 := (HO2.out.lt _ e.symm).1; dsimp only at h9; omega)).trans (cell_drew (cell_alloc k1))⟩)
            ((refine step_append_any (by rfl) (.tmp 66) (.tmp 78) 71 (by rfl) w1.heap.size 86 inf0 _ 3 24 Tryd.underlying71 hi jz0 jz1 jz2 rfl (by decide) _ 0 _ (by rfl) ((HO2.out.alloc _).drew) (some ⟨w2.heap.size, 0, none⟩) 1 1 [.int .i64 a, .int .i64 b, .int .i64 v] (by rfl) rfl (fun ad ha j u hj => by cases ha; exact cell_drew (World.news_of_block (cs := #[.int .i64 a, .int .i64 b, .int .i64 v]) (blk_new rfl) j u hj)) (fun h => by cases h) (by simp [Value.oneCell']) (by unfold maxLen; omega) (by omega) (by simp; omega) ?_; intro v' w9 hown9 hgrow9))
          go_wp2_with fail
          go_roundw
          case rel =>
            refine ⟨k + 1, [] ++ [⟨a, b, v⟩], (by simp only [List.length_append, List.length_cons, List.length_nil] at ho ⊢; omega), .inr hlt, by go_num, Own.snoc hown9 (by simp [HPL.out]) (by simp [encP]), Lib.hid (.inr ⟨[], _, rfl, HJ.out⟩), Below.grown (by (repeat' (first | with_reducible exact Below.refl _ _ | with_reducible assumption | with_reducible refine Below.drew ?_ | with_reducible refine below_drewN ?_ _ | with_reducible refine Below.setCell ?_ ?_ _ | with_reducible refine Below.alloc ?_ ?_ _ | omega | (simp; done) | (simp; omega)))) hgrow9 (by simp; omega) (fun g hg => (HO2.out.lt g hg).1)⟩
          case measure => simp [intOf]; omega
        · obtain ⟨g2, c2, rfl, hg2, hc2, hrow2, hfz⟩ := own_cells (fun x _ => encP_len x) (by simp) hown2
          obtain ⟨m, hm2⟩ : ∃ m, pre.length = m := ⟨_, rfl⟩
          have hlen : (pre ++ [q]).length = m + 1 := by simp [hm2]
          have hq : (pre ++ [q])[m]? = some q := by rw [← hm2]; simp
          obtain ⟨g3, off3, e3, hg3, j0, j1, j2⟩ := cells3 hrow2 hq
          cases e3
          have HO2 : Hid (w2.ownsRow w1.heap.size 86 3 (.slice (some ⟨g2, 0, none⟩) (m + 1) c2) (m + 1) ((pre ++ [q]).flatMap encP)) := by
            have h := hown2
            unfold Own at h
            rw [hlen] at h
            exact h
          have HPL := Lib.hid hm2
          have ho2 : m + 1 ≤ k := by rw [← hlen]; exact ho
          rw [hlen]
          rw [Nat.zero_add] at j0 j1 j2
          have f1 : (m : Int) + 1 - 1 = (m : Int) := by omega
          clear hown2 hJ hm2 hlen hq hrow2 HO
          by_cases hT : q.t = a
          · by_cases hV : q.v = v
            · have HJ : Hid (pre ++ jc ⟨q.f, b, q.v⟩ (joinP g0 (ds.drop (k + 1))) = joinedL (joinP g0 ds)) := by show _ = _; rw [← hj, jc_join ⟨hT, hV⟩]
              have e1 : (q.t == a) = true := by simp [hT]
              have e2 : (q.v == v) = true := by simp [hV]
              clear hj hT hV
              go_wp2_with fail
              go_quiet (fail)
              go_wp2_with fail
              go_roundw
              case rel =>
                refine ⟨k + 1, pre ++ [⟨q.f, b, q.v⟩], (by simp only [List.length_append, List.length_cons, List.length_nil] at ho ⊢; omega), .inr hlt, by go_num, ?_, Lib.hid (.inr ⟨pre, _, rfl, HJ.out⟩), ?_⟩
                · have h := own_set (i := m * 3 + 1) (own_below HO2.out (w' := w2.drewN nq) (by (repeat' (first | with_reducible exact Below.refl _ _ | with_reducible assumption | with_reducible refine Below.drew ?_ | with_reducible refine below_drewN ?_ _ | with_reducible refine Below.setCell ?_ ?_ _ | with_reducible refine Below.alloc ?_ ?_ _ | omega | (simp; done) | (simp; omega))))) (by omega) (.int .i64 b)
                  have e := flat_set_last encP_len pre q ⟨q.f, b, q.v⟩ 1 (.int .i64 b) rfl (by decide)
                  rw [HPL.out] at e
                  rw [e] at h
                  unfold Own
                  rw [show (pre ++ [(⟨q.f, b, q.v⟩ : Pc Int)]).length = m + 1 by simp [HPL.out]]
                  exact h
                · (repeat' (first | with_reducible exact Below.refl _ _ | with_reducible assumption | with_reducible refine Below.drew ?_ | with_reducible refine below_drewN ?_ _ | with_reducible refine Below.setCell ?_ ?_ _ | with_reducible refine Below.alloc ?_ ?_ _ | omega | (simp; done) | (simp; omega)))
              case measure => simp [intOf]; omega
            · have HJ : Hid ((pre ++ [q]) ++ jc ⟨a, b, v⟩ (joinP g0 (ds.drop (k + 1))) = joinedL (joinP g0 ds)) := by show _ = _; rw [← hj, jc_keep (fun h => hV h.2)]; simp
              have e1 : (q.t == a) = true := by simp [hT]
              have e2 : (q.v == v) = false := by simp [hV]
              clear hj hT hV
              go_wp2_with fail
              go_quiet (fail)
              go_wp2_with fail
              go_region_held_law (fun w' => w'.cell? ⟨gd, k, none⟩ = some (.int .i64 a) ∧ w'.cell? ⟨gd, k + 1, none⟩ = some (.int .i64 b)) (first | with_reducible exact ⟨k0, k1⟩ | go_keep | exact ⟨(World.grownBy.cell_far hgrow9 ⟨gd, k, none⟩ (by simp; omega) (fun e => by have h9 := (HO2.out.lt _ e.symm).1; dsimp only at h9; omega)).trans (cell_drew (cell_alloc k0)), (World.grownBy.cell_far hgrow9 ⟨gd, k + 1, none⟩ (by simp; omega) (fun e => by have h9 := (HO2.out.lt _ e.symm).1; dsimp only at h9; omega)).trans (cell_drew (cell_alloc k1))⟩)
                ((refine step_append_any (by rfl) (.tmp 66) (.tmp 78) 71 (by rfl) w1.heap.size 86 inf0 _ 3 24 Tryd.underlying71 hi jz0 jz1 jz2 rfl (by decide) _ (m + 1) _ (by rfl) ((HO2.out.alloc _).drew) (some ⟨w2.heap.size, 0, none⟩) 1 1 [.int .i64 a, .int .i64 b, .int .i64 v] (by rfl) rfl (fun ad ha j u hj => by cases ha; exact cell_drew (World.news_of_block (cs := #[.int .i64 a, .int .i64 b, .int .i64 v]) (blk_new rfl) j u hj)) (fun h => by cases h) (by simp [Value.oneCell']) (by unfold maxLen; omega) (by omega) (by simp; omega) ?_; intro v' w9 hown9 hgrow9))
              go_wp2_with fail
              go_roundw
              case rel =>
                refine ⟨k + 1, (pre ++ [q]) ++ [⟨a, b, v⟩], (by simp only [List.length_append, List.length_cons, List.length_nil] at ho ⊢; omega), .inr hlt, by go_num, Own.snoc hown9 (by simp [HPL.out]) (by simp [encP]), Lib.hid (.inr ⟨pre ++ [q], _, rfl, HJ.out⟩), Below.grown (by (repeat' (first | with_reducible exact Below.refl _ _ | with_reducible assumption | with_reducible refine Below.drew ?_ | with_reducible refine below_drewN ?_ _ | with_reducible refine Below.setCell ?_ ?_ _ | with_reducible refine Below.alloc ?_ ?_ _ | omega | (simp; done) | (simp; omega)))) hgrow9 (by simp; omega) (fun g hg => (HO2.out.lt g hg).1)⟩
              case measure => simp [intOf]; omega
          · have HJ : Hid ((pre ++ [q]) ++ jc ⟨a, b, v⟩ (joinP g0 (ds.drop (k + 1))) = joinedL (joinP g0 ds)) := by show _ = _; rw [← hj, jc_keep (fun h => hT h.1)]; simp
            have e1 : (q.t == a) = false := by simp [hT]
            clear hj hT
            go_wp2_with fail
            go_quiet (fail)
            go_wp2_with fail
            go_region_held_law (fun w' => w'.cell? ⟨gd, k, none⟩ = some (.int .i64 a) ∧ w'.cell? ⟨gd, k + 1, none⟩ = some (.int .i64 b)) (first | with_reducible exact ⟨k0, k1⟩ | go_keep | exact ⟨(World.grownBy.cell_far hgrow9 ⟨gd, k, none⟩ (by simp; omega) (fun e => by have h9 := (HO2.out.lt _ e.symm).1; dsimp only at h9; omega)).trans (cell_drew (cell_alloc k0)), (World.grownBy.cell_far hgrow9 ⟨gd, k + 1, none⟩ (by simp; omega) (fun e => by have h9 := (HO2.out.lt _ e.symm).1; dsimp only at h9; omega)).trans (cell_drew (cell_alloc k1))⟩)
              ((refine step_append_any (by rfl) (.tmp 66) (.tmp 78) 71 (by rfl) w1.heap.size 86 inf0 _ 3 24 Tryd.underlying71 hi jz0 jz1 jz2 rfl (by decide) _ (m + 1) _ (by rfl) ((HO2.out.alloc _).drew) (some ⟨w2.heap.size, 0, none⟩) 1 1 [.int .i64 a, .int .i64 b, .int .i64 v] (by rfl) rfl (fun ad ha j u hj => by cases ha; exact cell_drew (World.news_of_block (cs := #[.int .i64 a, .int .i64 b, .int .i64 v]) (blk_new rfl) j u hj)) (fun h => by cases h) (by simp [Value.oneCell']) (by unfold maxLen; omega) (by omega) (by simp; omega) ?_; intro v' w9 hown9 hgrow9))
            go_wp2_with fail
            go_roundw
            case rel =>
              refine ⟨k + 1, (pre ++ [q]) ++ [⟨a, b, v⟩], (by simp only [List.length_append, List.length_cons, List.length_nil] at ho ⊢; omega), .inr hlt, by go_num, Own.snoc hown9 (by simp [HPL.out]) (by simp [encP]), Lib.hid (.inr ⟨pre ++ [q], _, rfl, HJ.out⟩), Below.grown (by (repeat' (first | with_reducible exact Below.refl _ _ | with_reducible assumption | with_reducible refine Below.drew ?_ | with_reducible refine below_drewN ?_ _ | with_reducible refine Below.setCell ?_ ?_ _ | with_reducible refine Below.alloc ?_ ?_ _ | omega | (simp; done) | (simp; omega)))) hgrow9 (by simp; omega) (fun g hg => (HO2.out.lt g hg).1)⟩
            case measure => simp [intOf]; omega
    · have HE : Hid (out = joinedL (joinP g0 ds)) := by
        show _ = _
        have h : joinP g0 (ds.drop k) = [] := by
          have h : ds.drop k = [] ∨ ∃ a, ds.drop k = [a] := by
            cases hd : ds.drop k with
            | nil => exact .inl rfl
            | cons a r =>
              have hlen : (ds.drop k).length = ds.length - k := List.length_drop
              rw [hd, List.length_cons] at hlen
              obtain rfl : r = [] := List.eq_nil_of_length_eq_zero (by omega)
              exact .inr ⟨a, rfl⟩
          rcases h with h | ⟨a, h⟩ <;> (rw [h]; simp [joinP])
        rcases hJ.out with ⟨rfl, hj⟩ | ⟨pre, q, rfl, hj⟩
        · rw [← hj, h]; rfl
        · rw [← hj, h]; rfl
      obtain ⟨A2, c2, rfl, hr2, hA2, _⟩ := own_line (fun x _ => encP_len x) HO.out
      have hlt2 : ¬ ((k : Int) + 1 < (ds.length : Int)) := by omega
      have i7 : IntKind.i64.wrap ((k : Int) + 1) = (k : Int) + 1 := by rw [IntKind.wrap_i64]; omega
      have HR2 := Lib.hid hr2
      clear hr2 hown hJ
      go_wp2_with fail
      go_ret
      exact ⟨⟨A2, c2, out, rfl, HR2.out, hA2, by rw [HE.out]; exact HMD.out⟩, hw0⟩

set_option maxRecDepth 10000 in
set_option maxHeartbeats 8000000 in
theorem known_new (l : List (Pc Int)) (A : Option Addr) (c : Nat) (w : World) (hl : RowAt encP 3 w w.heap.size A l) (hm : l.length ≤ 200) (hv : ∀ p ∈ l, ValidP MD p) :
    Calls Tryd.prog 30 #[.slice A l.length c] w fun e w' => (∃ A' c' r, e = .returned (.tuple #[.slice A' r.length c', .bool true]) ∧ RowAt encP 3 w' w'.heap.size A' r ∧ (A' = none → c' = 0) ∧ Made MD l r) ∧ Below w.heap.size w w' := by
  obtain ⟨inf0, hi, jz0, jz1, jz2⟩ := info_parts infoR6
  have HL := Lib.hid hl
  have HV := Lib.hid hv
  have hd : decide ((200 : Int) < (l.length : Int)) = false := decide_eq_false (by omega)
  clear hl hv
  go_enter Tryd.func30, Tryd.ntmps30
  go_wp2_with fail
  go_loopw [4, 5] (fun u i wr => ∃ k : Nat, k ≤ l.length ∧ i = .int .i64 k ∧ Own encP 3 86 w.heap.size wr u (l.take k) ∧ Below w.heap.size w wr) (fun _ i _ => l.length - (intOf i).toNat)
  case atStart => exact ⟨0, Nat.zero_le _, rfl, Own.nil, Below.refl _ _⟩
  case round =>
    obtain ⟨k, hk, rfl, hown, hw0⟩ := hrel
    have z0 := hw0.size
    have HO := Lib.hid hown
    by_cases hlt : k < l.length
    · skip
      obtain ⟨p, hp⟩ : ∃ p, l[k]? = some p := ⟨l[k]'(by omega), List.getElem?_eq_getElem _⟩
      have hg2 : ∀ a, A = some a → a.block < w.heap.size := fun a ha => by obtain ⟨_, _, e0, h9, _⟩ := HL.out k p hp; rw [ha] at e0; cases e0; exact h9
      obtain ⟨g, off, rfl, hg, j0, j1, j2⟩ := cells3 (HL.out.below hw0 (Nat.le_refl _)) hp
      have hg3 : g < w.heap.size := hg2 _ rfl
      have hlt2 : (k : Int) < (l.length : Int) := by omega
      have hltn : k < l.length := by omega
      have hlen : (l.take k).length = k := by rw [List.length_take]; omega
      have HVP : Hid (∃ v, ValidP MD ⟨p.f, p.t, v⟩) := ⟨p.v, HV.out p (List.mem_of_getElem? hp)⟩
      have HP := Lib.hid hp
      clear hp hg2 hown
      go_wp2_with fail
      go_region_held3 (fun w' => w'.cell? ⟨g, off + k * 3, none⟩ = some (.int .i64 p.f) ∧ w'.cell? ⟨g, off + k * 3 + 1, none⟩ = some (.int .i64 p.t)) (first | with_reducible exact ⟨j0, j1⟩ | go_keep)
        (first | (go_at_call 76; refine (isSpan_ok' _ _ _ HVP.out).mono ?_; rintro e w2 ⟨rfl, hb2⟩; have hw2 : Below w.heap.size w w2 := stepH (by (repeat' (first | with_reducible exact Below.refl _ _ | with_reducible assumption | with_reducible refine Below.drew ?_ | with_reducible refine below_drewN ?_ _ | with_reducible refine Below.setCell ?_ ?_ _ | with_reducible refine Below.alloc ?_ ?_ _ | omega | (simp; done) | (simp; omega)))) hb2; have HO2 := Lib.hid (own_below HO.out (undrew hb2)); replace j0 := cellOf hb2 (by first | exact j0 | exact cell_drew j0); replace j1 := cellOf hb2 (by first | exact j1 | exact cell_drew j1); replace j2 := cellOf hb2 (by first | exact j2 | exact cell_drew j2); have z2 := hw2.size; clear hb2))
      go_wp2_with fail
      go_region_held_law (fun w' => w'.cell? ⟨g, off + k * 3, none⟩ = some (.int .i64 p.f) ∧ w'.cell? ⟨g, off + k * 3 + 1, none⟩ = some (.int .i64 p.t) ∧ w'.cell? ⟨g, off + k * 3 + 2, none⟩ = some (.int .i64 p.v)) (first | with_reducible exact ⟨j0, j1, j2⟩ | go_keep | exact ⟨(World.grownBy.cell_far hgrow9 ⟨g, off + k * 3, none⟩ (by simp; omega) (fun e => by have h9 := (HO2.out.lt _ e.symm).1; dsimp only at h9; omega)).trans (cell_drew (cell_alloc j0)), (World.grownBy.cell_far hgrow9 ⟨g, off + k * 3 + 1, none⟩ (by simp; omega) (fun e => by have h9 := (HO2.out.lt _ e.symm).1; dsimp only at h9; omega)).trans (cell_drew (cell_alloc j1)), (World.grownBy.cell_far hgrow9 ⟨g, off + k * 3 + 2, none⟩ (by simp; omega) (fun e => by have h9 := (HO2.out.lt _ e.symm).1; dsimp only at h9; omega)).trans (cell_drew (cell_alloc j2))⟩)
        ((refine step_append_any (by rfl) (.tmp 30) (.tmp 47) 71 (by rfl) w.heap.size 86 inf0 _ 3 24 Tryd.underlying71 hi jz0 jz1 jz2 rfl (by decide) _ (l.take k).length _ (by rfl) ((HO2.out.alloc _).drew) (some ⟨w2.heap.size, 0, none⟩) 1 1 [.int .i64 p.f, .int .i64 p.t, .int .i64 p.v] (by rfl) rfl (fun ad ha j u hj => by cases ha; exact cell_drew (World.news_of_block (cs := #[.int .i64 p.f, .int .i64 p.t, .int .i64 p.v]) (blk_new rfl) j u hj)) (fun h => by cases h) (by simp [Value.oneCell']) (by rw [hlen]; unfold maxLen; omega) (by rw [hlen]; omega) (by simp; omega) ?_; intro v' w9 hown9 hgrow9))
      go_wp2_with fail
      go_roundw
      case rel =>
        refine ⟨k + 1, by omega, by go_num, ?_, Below.grown (by (repeat' (first | with_reducible exact Below.refl _ _ | with_reducible assumption | with_reducible refine Below.drew ?_ | with_reducible refine below_drewN ?_ _ | with_reducible refine Below.setCell ?_ ?_ _ | with_reducible refine Below.alloc ?_ ?_ _ | omega | (simp; done) | (simp; omega)))) hgrow9 (by simp; omega) (fun g hg => (HO2.out.lt g hg).1)⟩
        rw [take_snoc HP.out]
        exact Own.snoc hown9 rfl (by simp [encP])
      case measure => simp [intOf]; omega
    · obtain rfl : k = l.length := by omega
      have HK : Hid (Own encP 3 86 w.heap.size wr u4 l) := by have h := HO.out; rw [List.take_length] at h; exact h
      obtain ⟨A2, c2, rfl, hr2, _, _⟩ := own_line (fun x _ => encP_len x) HK.out
      have HR2 := Lib.hid hr2
      clear hown hr2 HO
      go_wp2_with fail
      refine (norm6_new l A2 c2 wr HR2.out (by omega) HV.out).mono ?_
      rintro e w2 ⟨⟨A3, c3, r, rfl, hr3, hA3, hmade⟩, hb2⟩
      have hw2 : Below w.heap.size w w2 := stepH hw0 hb2
      go_wp2_with fail
      go_ret2
      exact ⟨⟨A3, c3, r, rfl, hr3, hA3, hmade⟩, hw2⟩
end

section
open Go.RowKit

set_option maxRecDepth 10000 in
set_option maxHeartbeats 8000000 in
theorem refOver6_any (l m : List (Pc Int)) (A B : Option Addr) (c d : Nat) (w : World) (hl : RowAt encP 3 w w.heap.size A l) (hm : RowAt encP 3 w w.heap.size B m) (h1 : l.length ≤ 1000) (h2 : m.length ≤ 1000) (hA : A = none → c = 0) (hB : B = none → d = 0) (hv : ∀ p ∈ m ++ l, ValidP MD p) :
    Calls Tryd.prog 34 #[.slice A l.length c, .slice B m.length d] w fun e w' => (∃ A' c' r, e = .returned (.slice A' r.length c') ∧ RowAt encP 3 w' w'.heap.size A' r ∧ (A' = none → c' = 0) ∧ Made MD (m ++ l) r) ∧ Below w.heap.size w w' := by
  obtain ⟨inf0, hi, jz0, jz1, jz2⟩ := info_parts infoR6
  obtain ⟨n, hn⟩ : ∃ n, l.length + m.length = n := ⟨_, rfl⟩
  have hn2 : n ≤ 2000 := by omega
  obtain ⟨MC, hMC, hmk⟩ : ∃ MC : Array Value, MC.size = n * 3 ∧ ∀ w : World, (Instr.makeSlice 71 (.int .i64 0) (.int .i64 (n : Int))).run Tryd.prog w = .ok (.slice (some ⟨w.heap.size, 0, none⟩) 0 n) (w.alloc (.cells MC 86)) := by
    refine ⟨madeCells (Value.agg #[.int .i64 0, .int .i64 0, .int .i64 0]).cells (n * inf0.size), by rw [size_madeCells, jz1], fun w => ?_⟩
    have h := run_make (P := Tryd.prog) (w := w) 71 86 inf0 _ Tryd.underlying71 hi jz0 .i64 .i64 0 (n : Int) (Int.le_refl _) (by omega) (by rw [jz2]; omega) (by omega)
    simpa using h
  have kw : IntKind.i64.wrap ((l.length : Int) + (m.length : Int)) = (n : Int) := by rw [IntKind.wrap_i64]; omega
  have NONE : ∀ {x : List (Pc Int)} {X : Option Addr} {z : Nat}, RowAt encP 3 w w.heap.size X x → (X = none → z = 0) → (X = none → x.length = 0 ∧ z = 0) := fun {x X z} hx hz h => by
    refine ⟨?_, hz h⟩
    cases x with
    | nil => rfl
    | cons p r => obtain ⟨_, _, e, _⟩ := hx 0 p rfl; rw [h] at e; cases e
  have HAN := Lib.hid (NONE hl hA)
  have HBN := Lib.hid (NONE hm hB)
  have HFL := Lib.hid (fun w' (h : Below w.heap.size w w') => rowFlat encP_len (by decide) (hl.below h (Nat.le_refl _)))
  have HFM := Lib.hid (rowFlat encP_len (by decide) hm)
  have H1L := Lib.hid (encP_one l)
  have H1M := Lib.hid (encP_one m)
  have HNL := Lib.hid (encP_flat l)
  have HNM := Lib.hid (encP_flat m)
  have HV := Lib.hid hv
  have HOM : Hid ((w.alloc (.cells MC 86)).ownsRow w.heap.size 86 3 (.slice (some ⟨w.heap.size, 0, none⟩) 0 n) 0 []) := ⟨by simp, .inr ⟨w.heap.size, n, MC, rfl, Nat.le_refl _, blk_new rfl, Nat.zero_le _, by unfold maxLen; omega, hMC, by simp⟩⟩
  clear hl hm hA hB NONE hv
  go_enter Tryd.func34, Tryd.ntmps34
  go_upto_region 2 with (at_builtin; go_must (refine wpList_append_any rfl (.tmp 11) (.tmp 12) 71 rfl w.heap.size 86 inf0 _ 3 24 Tryd.underlying71 hi jz0 jz1 jz2 rfl (by decide) _ 0 _ rfl HOM.out B m.length d (m.flatMap encP) rfl HNM.out (fun ad ha j u hj => cell_alloc (HFM.out ad ha j u hj)) HBN.out H1M.out (by unfold maxLen; omega) (by omega) (by simp) ?_); intro v1 w1 hown1 hgrow1)
  have hw1 : Below w.heap.size w w1 := Below.grown ((Below.refl _ _).alloc (Nat.le_refl _) (.cells MC 86)) hgrow1 (by simp) (fun g hg => by cases hg; exact Nat.le_refl _)
  have z1 := hw1.size
  rw [Nat.zero_add, List.nil_append] at hown1
  have HO1 := Lib.hid hown1
  clear hown1 hgrow1
  go_wp2_with (at_builtin; go_must (refine wpList_append_any rfl (.tmp 14) (.tmp 15) 71 rfl w.heap.size 86 inf0 _ 3 24 Tryd.underlying71 hi jz0 jz1 jz2 rfl (by decide) _ m.length _ rfl HO1.out A l.length c (l.flatMap encP) rfl HNL.out (HFL.out _ hw1) HAN.out H1L.out (by unfold maxLen; omega) (by omega) z1 ?_); intro v2 w2 hown2 hgrow2)
  have hw2 : Below w.heap.size w w2 := Below.grown hw1 hgrow2 z1 (fun g hg => (HO1.out.lt g hg).1)
  have z2 := hw2.size
  have hO2 : Own encP 3 86 w.heap.size w2 v2 (m ++ l) := by unfold Own; rw [List.length_append, List.flatMap_append]; exact hown2
  obtain ⟨q, hq⟩ : ∃ q, m ++ l = q := ⟨_, rfl⟩
  have hql : q.length ≤ 2000 := by rw [← hq, List.length_append]; omega
  have HVQ : Hid (∀ p ∈ q, ValidP MD p) := by show ∀ p ∈ q, _; rw [← hq]; exact HV.out
  rw [hq] at hO2
  have HQ := Lib.hid hq
  obtain ⟨A2, c2, rfl, hr2, _, _⟩ := own_line (fun x _ => encP_len x) hO2
  have HR2 := Lib.hid hr2
  clear hown2 hgrow2 hO2 hr2 hq
  refine (norm6_new q A2 c2 _ HR2.out (by omega) HVQ.out).mono ?_
  rintro e w3 ⟨⟨A3, c3, r, rfl, hr3, hA3, hmade⟩, hb3⟩
  have hw3 : Below w.heap.size w w3 := stepH hw2 hb3
  have HM3 : Hid (Made MD (m ++ l) r) := by show Made _ _ _; rw [HQ.out]; exact hmade
  have HR3 := Lib.hid hr3
  clear hmade hr3 hb3
  go_wp2_with fail
  go_ret
  exact ⟨⟨A3, c3, r, rfl, HR3.out, hA3, HM3.out⟩, hw3⟩
end

section
open Go.RowKit

theorem selT_snoc {l : List (Pc Int)} {k : Nat} {p : Pc Int} (hp : l[k]? = some p) : selL (fun _ => true) (l.take (k + 1)) = selL (fun _ => true) (l.take k) ++ [⟨p.f, p.t, ()⟩] := by
  rw [selL_snoc hp, if_pos rfl]
theorem selT_len (l : List (Pc Int)) : (selL (fun _ => true) l).length = l.length := by unfold selL; simp
theorem selT_valid {l : List (Pc Int)} (h : ∀ p ∈ l, ValidP MD p) : ∀ p ∈ selL (fun _ => true) l, ValidS MD p := by
  intro p hp
  obtain ⟨q, hq, rfl⟩ := List.mem_map.1 hp
  exact h q (List.mem_filter.1 hq).1

set_option maxRecDepth 10000 in
set_option maxHeartbeats 8000000 in
theorem refDays6_any (l : List (Pc Int)) (A : Option Addr) (c : Nat) (w : World) (hl : RowAt encP 3 w w.heap.size A l) (hm : l.length ≤ 100000) (hv : ∀ p ∈ l, ValidP MD p) :
    Calls Tryd.prog 41 #[.slice A l.length c] w fun e w' => (∃ A' c' r, e = .returned (.slice A' r.length c') ∧ RowAt encU 2 w' w'.heap.size A' r ∧ (A' = none → c' = 0) ∧ SetOf MD (selL (fun _ => true) l) r) ∧ Below w.heap.size w w' := by
  obtain ⟨inf0, hi, jz0, jz1, jz2⟩ := info_parts infoSp
  have HL := Lib.hid hl
  have HV := Lib.hid (selT_valid hv)
  have HSL := Lib.hid (selT_len l)
  clear hl hv
  go_enter Tryd.func41, Tryd.ntmps41
  go_wp2_with fail
  go_loopw [3, 4] (fun u i wr => ∃ (k : Nat) (out : List (Pc Unit)), k ≤ l.length ∧ out.length = k ∧ i = .int .i64 k ∧ Own encU 2 91 w.heap.size wr u out ∧ Hid (out = selL (fun _ => true) (l.take k)) ∧ Below w.heap.size w wr) (fun _ i _ => l.length - (intOf i).toNat)
  case atStart => exact ⟨0, [], Nat.zero_le _, rfl, rfl, Own.nil, rfl, Below.refl _ _⟩
  case round =>
    obtain ⟨k, out, hk, ho, rfl, hown, hJ, hw0⟩ := hrel
    have z0 := hw0.size
    have HO2 := Lib.hid hown
    have HOL := Lib.hid ho
    have hole : out.length ≤ 100000 := by omega
    clear ho
    by_cases hlt : k < l.length
    · obtain ⟨p, hp⟩ : ∃ p, l[k]? = some p := ⟨l[k], List.getElem?_eq_getElem hlt⟩
      have hg2 : ∀ a, A = some a → a.block < w.heap.size := fun a ha => by obtain ⟨_, _, e0, h9, _⟩ := HL.out k p hp; rw [ha] at e0; cases e0; exact h9
      obtain ⟨g, off, rfl, hg, j0, j1, j2⟩ := cells3 (HL.out.below hw0 (Nat.le_refl _)) hp
      have hg3 : g < w.heap.size := hg2 _ rfl
      have hlt2 : (k : Int) < (l.length : Int) := by omega
      have HSN := Lib.hid (selT_snoc hp)
      clear hp hown hg2
      go_wp2_with fail
      go_region_held_law (fun w' => w'.cell? ⟨g, off + k * 3, none⟩ = some (.int .i64 p.f) ∧ w'.cell? ⟨g, off + k * 3 + 1, none⟩ = some (.int .i64 p.t)) (first | with_reducible exact ⟨j0, j1⟩ | go_keep | exact ⟨(World.grownBy.cell_far hgrow9 ⟨g, off + k * 3, none⟩ (by simp; omega) (fun e => by have h9 := (HO2.out.lt _ e.symm).1; dsimp only at h9; omega)).trans (cell_drew (cell_alloc j0)), (World.grownBy.cell_far hgrow9 ⟨g, off + k * 3 + 1, none⟩ (by simp; omega) (fun e => by have h9 := (HO2.out.lt _ e.symm).1; dsimp only at h9; omega)).trans (cell_drew (cell_alloc j1))⟩)
        ((refine step_append_any (by rfl) (.tmp 11) (.tmp 23) 59 (by rfl) w.heap.size 91 inf0 _ 2 16 Tryd.underlying59 hi jz0 jz1 jz2 rfl (by decide) _ out.length _ (by rfl) ((HO2.out.alloc _).drew) (some ⟨wr.heap.size, 0, none⟩) 1 1 [.int .i64 p.f, .int .i64 p.t] (by rfl) rfl (fun ad ha j u hj => by cases ha; exact cell_drew (World.news_of_block (cs := #[.int .i64 p.f, .int .i64 p.t]) (blk_new rfl) j u hj)) (fun h => by cases h) (by simp [Value.oneCell']) (by unfold maxLen; omega) (by omega) (by simp; omega) ?_; intro v' w9 hown9 hgrow9))
      go_wp2_with fail
      go_roundw
      case rel => exact ⟨k + 1, out ++ [⟨p.f, p.t, ()⟩], by omega, (by have := HOL.out; simp only [List.length_append, List.length_cons, List.length_nil]; omega), by go_num, Own.snoc hown9 rfl rfl, (by show _ = _; rw [hJ.out, HSN.out]), Below.grown (by (repeat' (first | with_reducible exact Below.refl _ _ | with_reducible assumption | with_reducible refine Below.drew ?_ | with_reducible refine below_drewN ?_ _ | with_reducible refine Below.setCell ?_ ?_ _ | with_reducible refine Below.alloc ?_ ?_ _ | omega | (simp; done) | (simp; omega)))) hgrow9 (by simp; omega) (fun g hg => (HO2.out.lt g hg).1)⟩
      case measure => simp [intOf]; omega
    · obtain rfl : k = l.length := by omega
      have HE : Hid (out = selL (fun _ => true) l) := by show _ = _; rw [hJ.out, List.take_length]
      obtain ⟨A2, c2, rfl, hr2, _, _⟩ := own_line (fun x _ => encU_len x) HO2.out
      have HR2 := Lib.hid hr2
      have HVO : Hid (∀ p ∈ out, ValidS MD p) := by show ∀ p ∈ out, _; rw [HE.out]; exact HV.out
      clear hr2 HO2 hJ hown
      go_wp2_with fail
      refine (normS_any out A2 c2 _ HR2.out (by omega) HVO.out).mono ?_
      rintro e w6 ⟨⟨A6, c6, r6, rfl, hr6, hA6, _, hset6⟩, hb6⟩
      have hw6 : Below w.heap.size w w6 := stepH hw0 hb6
      have HR6 := Lib.hid hr6
      have HS6 : Hid (SetOf MD (selL (fun _ => true) l) r6) := by show SetOf _ _ _; rw [← HE.out]; exact hset6
      clear hb6 hr6 hset6
      go_wp2_with fail
      go_ret
      exact ⟨⟨A6, c6, r6, rfl, HR6.out, hA6, HS6.out⟩, hw6⟩
end

section
open Go.RowKit

theorem moved6 {α : Type} {enc : α → List Value} {size : Nat} {w w' : World} {A : Option Addr} {l : List α} (h : RowAt enc size w w.heap.size A l) (hb : Below w.heap.size w w') : RowAt enc size w' w'.heap.size A l := (h.below hb (Nat.le_refl _)).more hb.size
theorem row_block6 {w : World} {g : Nat} {cs : Array Value} {e : TypeId} {l : List (Pc Unit)} (hb : w.heap[g]? = some (.cells cs e (0, 0))) (hc : cs.toList = l.flatMap encU) : RowAt encU 2 w w.heap.size (some ⟨g, 0, none⟩) l := by
  intro k x hx
  refine ⟨g, 0, rfl, (Array.getElem?_eq_some_iff.1 hb).1, fun j u hj => ?_⟩
  have h := flat_at (l := l) (enc := encU) (size := 2) (fun x _ => encU_len x) hx hj
  rw [← hc] at h
  rw [Nat.zero_add, cell_of_row w g _ cs e (0, 0) hb, ← h]
  simp

/-- one piece more is cut -/
theorem cut_step {l out : List (Pc Int)} {s r : List (Pc Unit)} {k : Nat} {p : Pc Int} {b : Int} (hl : Rise b l) (hp : l[k]? = some p) (hc : Canon MD r) (hh : ∀ n, hasD r n ↔ ((p.f ≤ n ∧ n < p.t) ∧ hasD s n)) (hv : ∀ n, valL out.reverse n = cutF (valL (l.take k) n) (valL s n)) (n : Int) :
    valL (out ++ mapP (fun _ => p.v) r).reverse n = cutF (valL (l.take (k + 1)) n) (valL s n) := by
  rw [List.reverse_append, valL_append, (mapP_rise (f := fun _ => p.v) hc.rise).rev n, mapP_val]
  have hs := valL_some (l := s) (n := n)
  have hr := valL_some (l := r) (n := n)
  by_cases h1 : hasD s n
  · obtain ⟨u, hu⟩ := Option.isSome_iff_exists.1 (hs.2 h1)
    by_cases h2 : p.f ≤ n ∧ n < p.t
    · obtain ⟨u2, hu2⟩ := Option.isSome_iff_exists.1 (hr.2 ((hh n).2 ⟨h2, h1⟩))
      have hm : p ∈ l.take (k + 1) := by rw [take_snoc hp]; exact List.mem_append.2 (.inr (List.mem_singleton.2 rfl))
      have := (hl.take (k + 1)).at hm h2.1 h2.2
      rw [hu2, hu, this]; rfl
    · have hn : valL r n = none := valL_none.2 (fun h => h2 ((hh n).1 h).1)
      rw [hn, hu]
      have e : valL (l.take (k + 1)) n = valL (l.take k) n := by
        rw [take_snoc hp, valL_append, valL, if_neg h2, valL]
        cases valL (l.take k) n <;> rfl
      rw [e]
      have h9 := hv n
      rw [hu] at h9
      exact h9
  · have hn : valL r n = none := valL_none.2 (fun h => h1 ((hh n).1 h).2)
    have hu : valL s n = none := valL_none.2 h1
    rw [hn, hu]
    have h9 := hv n
    rw [hu] at h9
    simpa [cutF] using h9

theorem both1_any (f t : Int) (s : List (Pc Unit)) (A B : Option Addr) (c d : Nat) (w : World) (ha : RowAt encU 2 w w.heap.size A [⟨f, t, ()⟩]) (hb : RowAt encU 2 w w.heap.size B s) (h2 : s.length ≤ 5000) (hB : B = none → d = 0) (hv : ValidS MD ⟨f, t, ()⟩) (hs : ∀ p ∈ s, ValidS MD p) :
    Calls Tryd.prog 85 #[.slice A 1 c, .slice B s.length d, .int .i64 2] w fun e w' => (∃ A' c' r, e = .returned (.slice A' r.length c') ∧ RowAt encU 2 w' w'.heap.size A' r ∧ (∀ x, A' = some x → w.heap.size ≤ x.block) ∧ Canon MD r ∧ (∀ n, hasD r n ↔ ((f ≤ n ∧ n < t) ∧ hasD s n)) ∧ r.length ≤ 2 * (1 + s.length)) ∧ Below w.heap.size w w' := by
  refine (both2_any [⟨f, t, ()⟩] s A B c d w ha hb (by simp) h2 hB (fun p hp => by
    rcases List.mem_append.1 hp with h | h
    · rw [List.mem_singleton.1 h]; exact hv
    · exact hs p h)).mono ?_
  rintro e w' ⟨⟨A', c', r, h1, h2, h3, h4, h5, h6⟩, hb⟩
  refine ⟨⟨A', c', r, h1, h2, h3, h4, fun n => ?_, by simpa using h6⟩, hb⟩
  rw [h5 n, hasD_cons]
  constructor
  · rintro ⟨h | h, h'⟩
    · exact ⟨h, h'⟩
    · exact absurd h hasD_nil
  · rintro ⟨h, h'⟩; exact ⟨.inl h, h'⟩

set_option maxRecDepth 10000 in
set_option maxHeartbeats 8000000 in
theorem refCut6_any (l : List (Pc Int)) (s : List (Pc Unit)) (A B : Option Addr) (c d : Nat) (w : World) (hl : RowAt encP 3 w w.heap.size A l) (hs : RowAt encU 2 w w.heap.size B s) (h1 : l.length ≤ 400) (h2 : s.length ≤ 200) (hB : B = none → d = 0) (cl : Canon MD l) (cs : Canon MD s) :
    Calls Tryd.prog 36 #[.slice A l.length c, .slice B s.length d] w fun e w' => (∃ A' c' r, e = .returned (.slice A' r.length c') ∧ RowAt encP 3 w' w'.heap.size A' r ∧ Canon MD r ∧ ∀ n, valL r n = cutF (valL l n) (valL s n)) ∧ Below w.heap.size w w' := by
  obtain ⟨inf0, hi, jz0, jz1, jz2⟩ := info_parts infoR6
  have HS := Lib.hid hs
  have CL := Lib.hid cl
  have CS := Lib.hid cs
  have HBN := Lib.hid hB
  have HL := Lib.hid hl
  have HLM : Hid (Made MD l l) := ⟨cl, fun n => (cl.rise.rev n).symm⟩
  have HLV : Hid (∀ p ∈ l, ValidP MD p) := fun p hp => ⟨(cl.rise.mem hp).1, (cl.rise.mem hp).2, cl.upTo p hp⟩
  clear hl hs cl cs hB
  go_enter Tryd.func36, Tryd.ntmps36
  go_wp2_with fail
  refine (norm6_any l A c _ HL.out (by omega) HLV.out).mono ?_
  rintro e w1 ⟨⟨A1, c1, r0, rfl, hr1, hmade⟩, hb1⟩
  obtain rfl : l = r0 := (hmade.uniq HLM.out).symm
  have hw1 : Below w.heap.size w w1 := hb1
  have z1 := hw1.size
  have HR1 := Lib.hid hr1
  clear hb1 hr1 hmade
  go_wp2_with fail
  go_loopw [5, 7] (fun u i wr => ∃ (k : Nat) (out : List (Pc Int)), k ≤ l.length ∧ i = .int .i64 k ∧ Own encP 3 86 w1.heap.size wr u out ∧ out.length ≤ 402 * k ∧ Hid ((∀ p ∈ out, ValidP MD p) ∧ ∀ n, valL out.reverse n = cutF (valL (l.take k) n) (valL s n)) ∧ Below w1.heap.size w1 wr) (fun _ i _ => l.length - (intOf i).toNat)
  case atStart => exact ⟨0, [], Nat.zero_le _, rfl, Own.nil, Nat.zero_le _, Lib.hid ⟨fun p hp => (by cases hp), fun n => by rw [List.take_zero]; cases valL s n <;> rfl⟩, Below.refl _ _⟩
  case round =>
    obtain ⟨k, out, hk, rfl, hown, ho, HJ, hwr⟩ := hrel
    have zr := hwr.size
    have hw0 : Below w.heap.size w wr := stepH hw1 hwr
    have HO := Lib.hid hown
    by_cases hlt : k < l.length
    · obtain ⟨p, hp⟩ : ∃ p, l[k]? = some p := ⟨l[k], List.getElem?_eq_getElem hlt⟩
      have hg2 : ∀ a, A1 = some a → a.block < w1.heap.size := fun a ha => by obtain ⟨_, _, e0, h9, _⟩ := HR1.out k p hp; rw [ha] at e0; cases e0; exact h9
      obtain ⟨g, off, rfl, hg, j0, j1, j2⟩ := cells3 (HR1.out.below hwr (Nat.le_refl _)) hp
      have hg3 : g < w1.heap.size := hg2 _ rfl
      have hlt2 : (k : Int) < (l.length : Int) := by omega
      have i2 : (0 : Int) ≤ (k : Int) := by omega
      have i3 : ((k : Int)).toNat = k := by omega
      have HP := Lib.hid hp
      have HVP : Hid (ValidS MD ⟨p.f, p.t, ()⟩) := HLV.out p (List.mem_of_getElem? hp)
      clear hp hown hg2
      go_wp2_with fail
      go_region_held_law (fun w' => w'.cell? ⟨g, off + k * 3, none⟩ = some (.int .i64 p.f) ∧ w'.cell? ⟨g, off + k * 3 + 1, none⟩ = some (.int .i64 p.t)) (first | with_reducible exact ⟨j0, j1⟩ | go_keep)
        ((go_at_call 85; refine (both1_any p.f p.t s (some ⟨wr.heap.size, 0, none⟩) B 1 d _ (row_block6 (by first | exact blk_new rfl | exact drew_old (blk_new rfl)) rfl) (moved6 HS.out (by (repeat' (first | with_reducible exact Below.refl _ _ | with_reducible assumption | with_reducible refine Below.drew ?_ | with_reducible refine below_drewN ?_ _ | with_reducible refine Below.setCell ?_ ?_ _ | with_reducible refine Below.alloc ?_ ?_ _ | omega | (simp; done) | (simp; omega))))) (by omega) HBN.out HVP.out CS.out.valid).mono ?_; rintro e w3 ⟨⟨A3, c3, r3, rfl, hr3, hB3, hc3, hh3, hl3⟩, hb3⟩; have hy3 : Below w1.heap.size w1 w3 := stepH (by (repeat' (first | with_reducible exact Below.refl _ _ | with_reducible assumption | with_reducible refine Below.drew ?_ | with_reducible refine below_drewN ?_ _ | with_reducible refine Below.setCell ?_ ?_ _ | with_reducible refine Below.alloc ?_ ?_ _ | omega | (simp; done) | (simp; omega)))) hb3; replace j0 := cellOf hb3 (by first | exact cell_drew (cell_alloc j0) | exact cell_alloc (cell_drew j0) | exact cell_alloc j0); replace j1 := cellOf hb3 (by first | exact cell_drew (cell_alloc j1) | exact cell_alloc (cell_drew j1) | exact cell_alloc j1); replace j2 := cellOf hb3 (by first | exact cell_drew (cell_alloc j2) | exact cell_alloc (cell_drew j2) | exact cell_alloc j2); have y3 : wr.heap.size < w3.heap.size := Nat.lt_of_lt_of_le (by simp) hb3.size; have HO3 := Lib.hid (own_below HO.out (w' := w3) ((((Below.refl wr.heap.size wr).alloc (Nat.le_refl _) (.cells #[.int .i64 p.f, .int .i64 p.t] 91)).drew).trans (hb3.mono (by simp)))); have HB3 : Hid (∀ a, A3 = some a → wr.heap.size < a.block) := (fun a ha => by have h := hB3 a ha; simp at h; omega); have HR3 := Lib.hid hr3; have HC3 := Lib.hid hc3; have HH3 := Lib.hid hh3; clear hb3 hr3 hc3 hh3 hB3))
      have hy30 : Below w.heap.size w w3 := stepH hw1 hy3
      have zy3 := hy3.size
      have hl3' : r3.length ≤ 402 := by omega
      have HN3 : Hid (∀ a, A3 = some a → ∀ b, u5.ownBlock = some b → b ≠ a.block) := fun a ha b hb => by have h9 := HB3.out a ha; have h8 := (HO.out.lt b hb).2; omega
      obtain ⟨wo, rfl⟩ : ∃ x : World, x = wr := ⟨_, rfl⟩
      obtain ⟨uo, rfl⟩ : ∃ x : Value, x = u5 := ⟨_, rfl⟩
      go_wp2_with fail
      go_loopw [5, 9] (fun u2 i2 wx => ∃ (j : Nat) (out2 : List (Pc Int)), j ≤ r3.length ∧ i2 = .int .i64 j ∧ Own encP 3 86 w1.heap.size wx u2 out2 ∧ Hid (out2 = out ++ mapP (fun _ => p.v) (r3.take j)) ∧ out2.length ≤ out.length + j ∧ Hid (RowAt encU 2 wx wx.heap.size A3 r3) ∧ Hid (∀ a, A3 = some a → ∀ b, u2.ownBlock = some b → b ≠ a.block) ∧ Below w1.heap.size w1 wx) (fun _ i2 _ => r3.length - (intOf i2).toNat)
      case atStart => exact ⟨0, out, Nat.zero_le _, rfl, HO3.out, Lib.hid (by simp [mapP]), Nat.le_refl _, HR3, HN3, hy3⟩
      case round =>
        obtain ⟨j, out2, hj, rfl, hown2, HE2, ho2, HR3, HN3, hwx⟩ := hrel
        have zx := hwx.size
        have hx0 : Below w.heap.size w wr := stepH hw1 hwx
        have HO2 := Lib.hid hown2
        by_cases hlj : j < r3.length
        · obtain ⟨q, hq⟩ : ∃ q, r3[j]? = some q := ⟨r3[j], List.getElem?_eq_getElem hlj⟩
          obtain ⟨g3, o3, rfl, hg3b, d0, d1⟩ := cells2 HR3.out hq
          have hne3 : Hid (∀ b, u5.ownBlock = some b → b ≠ g3) := fun b hb => HN3.out _ rfl b hb
          have hlj2 : (j : Int) < (r3.length : Int) := by omega
          have HQ := Lib.hid hq
          obtain ⟨_, _, e9, _, _, _, k2⟩ := cells3 (HR1.out.below hwx (Nat.le_refl _)) HP.out
          cases e9
          have hon2 : out2.length ≤ 200000 := by omega
          have hg4 : g < wr.heap.size := by omega
          clear hq hown2 j0 j1 j2
          go_wp2_with fail
          go_region_held_law (fun w' => w'.cell? ⟨g3, o3 + j * 2, none⟩ = some (.int .i64 q.f) ∧ w'.cell? ⟨g3, o3 + j * 2 + 1, none⟩ = some (.int .i64 q.t) ∧ w'.cell? ⟨g, off + k * 3 + 2, none⟩ = some (.int .i64 p.v)) (first | with_reducible exact ⟨d0, d1, k2⟩ | go_keep | exact ⟨(World.grownBy.cell_far hgrow9 ⟨g3, o3 + j * 2, none⟩ (by simp; omega) (fun e => hne3.out _ e.symm rfl)).trans (cell_drew (cell_alloc d0)), (World.grownBy.cell_far hgrow9 ⟨g3, o3 + j * 2 + 1, none⟩ (by simp; omega) (fun e => hne3.out _ e.symm rfl)).trans (cell_drew (cell_alloc d1)), (World.grownBy.cell_far hgrow9 ⟨g, off + k * 3 + 2, none⟩ (by simp; omega) (fun e => by have h9 := (HO2.out.lt _ e.symm).1; dsimp only at h9; omega)).trans (cell_drew (cell_alloc k2))⟩)
            ((refine step_append_lies _ (by rfl) (.tmp 38) (.tmp 55) 71 (by rfl) w1.heap.size 86 inf0 _ 3 24 Tryd.underlying71 hi jz0 jz1 jz2 rfl (by decide) _ out2.length _ (by rfl) ((HO2.out.alloc _).drew) ⟨wr.heap.size, 0, none⟩ 1 1 [.int .i64 q.f, .int .i64 q.t, .int .i64 p.v] (by rfl) rfl (fun j u hj => cell_drew (World.news_of_block (cs := #[.int .i64 q.f, .int .i64 q.t, .int .i64 p.v]) (blk_new rfl) j u hj)) (by simp [Value.oneCell']) (by decide) (by unfold maxLen; omega) (by omega) (by simp; omega) _ rfl ?_; intro g9 c9 w9 hown9 hgrow9 hat9 hlt9))
          go_wp2_with fail
          go_roundw
          case rel =>
            refine ⟨j + 1, out2 ++ [⟨q.f, q.t, p.v⟩], by omega, by go_num, Own.snoc hown9 rfl rfl, Lib.hid ?_, (by simp only [List.length_append, List.length_cons, List.length_nil]; omega), Lib.hid ?_, Lib.hid ?_, Below.grown (by (repeat' (first | with_reducible exact Below.refl _ _ | with_reducible assumption | with_reducible refine Below.drew ?_ | with_reducible refine below_drewN ?_ _ | with_reducible refine Below.setCell ?_ ?_ _ | with_reducible refine Below.alloc ?_ ?_ _ | omega | (simp; done) | (simp; omega)))) hgrow9 (by simp; omega) (fun g hg => (HO2.out.lt g hg).1)⟩
            · rw [HE2.out, mapP_snoc HQ.out, List.append_assoc]
            · intro i x hx
              obtain ⟨b', off', e, hb', hcc⟩ := HR3.out i x hx
              cases e
              exact ⟨g3, o3, rfl, by have := hgrow9.size; simp at this; omega, fun i' u hu => (World.grownBy.cell_far hgrow9 ⟨g3, o3 + i * 2 + i', none⟩ (by simp; omega) (fun e => hne3.out _ e.symm rfl)).trans (cell_drew (cell_alloc (hcc i' u hu)))⟩
            · intro a ha b hb
              cases ha
              simp [Value.ownBlock] at hb
              subst hb
              rcases hat9 with h | h
              · exact hne3.out _ h
              · simp at h; dsimp only; omega
          case measure => simp [intOf]; omega
        · obtain rfl : j = r3.length := by omega
          rw [List.take_length] at HE2
          have HO2' := Lib.hid (show Own encP 3 86 w1.heap.size wr u5 out2 from HO2.out)
          have hlj2 : ¬ ((r3.length : Int) < (r3.length : Int)) := by omega
          clear hown2
          go_wp2_with fail
          go_roundw
          case rel =>
            refine ⟨k + 1, out2, by omega, by go_num, HO2'.out, by omega, Lib.hid ⟨fun x hx => ?_, fun n => ?_⟩, hwx⟩
            · rw [HE2.out] at hx
              rcases List.mem_append.1 hx with hx | hx
              · exact HJ.out.1 x hx
              · obtain ⟨y, hy, rfl⟩ := List.mem_map.1 hx
                exact HC3.out.valid y hy
            · rw [HE2.out]
              exact cut_step CL.out.rise HP.out HC3.out HH3.out HJ.out.2 n
          case measure => simp [intOf]; omega
    · obtain rfl : k = l.length := by omega
      rw [List.take_length] at HJ
      obtain ⟨A2, c2, rfl, hr2, _, _⟩ := own_line (fun x _ => encP_len x) HO.out
      have HR2 := Lib.hid hr2
      clear hr2 HO hown
      go_wp2_with fail
      refine (norm6_any out A2 c2 _ HR2.out (by omega) HJ.out.1).mono ?_
      rintro e w6 ⟨⟨A6, c6, r6, rfl, hr6, hm6⟩, hb6⟩
      have hw6 : Below w.heap.size w w6 := stepH hw0 hb6
      have HR6 := Lib.hid hr6
      have HM6 := Lib.hid hm6
      clear hb6 hr6 hm6
      go_wp2_with fail
      go_ret
      exact ⟨⟨A6, c6, r6, rfl, HR6.out, HM6.out.canon, fun n => by rw [HM6.out.val]; exact HJ.out.2 n⟩, hw6⟩
end

section
open Go.RowKit

/-- is a number odd? -/
def oddG (x : Int) : Bool := bits .and .i64 x 1 == 1
theorem odd1_any (x : Int) (w : World) : Calls Tryd.prog 43 #[.int .i64 x] w fun e w' => e = .returned (.bool (oddG x)) ∧ Below w.heap.size w w' := by
  go_enter Tryd.func43, Tryd.ntmps43
  go_wp2_with fail
  go_ret
  exact ⟨rfl, by (repeat' (first | with_reducible exact Below.refl _ _ | with_reducible assumption | with_reducible refine Below.drew ?_ | with_reducible refine below_drewN ?_ _ | with_reducible refine Below.setCell ?_ ?_ _ | with_reducible refine Below.alloc ?_ ?_ _ | omega | (simp; done) | (simp; omega)))⟩

theorem spansAre_is6 (l : List (Pc Unit)) (A : Option Addr) (c : Nat) (b : Bool) (w : World) (hb : b = true ↔ ∀ p ∈ l, ValidS MD p) (hl : RowAt encU 2 w w.heap.size A l) (hm : l.length ≤ 1000000) :
    Calls Tryd.prog 31 #[.slice A l.length c] w fun e w' => e = .returned (.bool b) ∧ Below w.heap.size w w' :=
  (spansAre_any l A c w hl hm).mono fun e w' ⟨⟨b', he, h⟩, hB⟩ => ⟨by rw [he]; congr 2; cases b <;> cases b' <;> simp_all, hB⟩

theorem known_is (l : List (Pc Int)) (A : Option Addr) (c : Nat) (b : Bool) (w : World) (hb : b = true ↔ ∀ p ∈ l, ValidP MD p) (hl : RowAt encP 3 w w.heap.size A l) (hm : l.length ≤ 200) :
    Calls Tryd.prog 30 #[.slice A l.length c] w fun e w' => (∃ A' k c', e = .returned (.tuple #[.slice A' k c', .bool b])) ∧ Below w.heap.size w w' := by
  by_cases h : ∀ p ∈ l, ValidP MD p
  · rw [hb.2 h]
    refine (known_ok l A c w hl hm h).mono ?_
    rintro e w' ⟨⟨A', c', r, rfl, _⟩, hB⟩
    exact ⟨⟨_, _, _, rfl⟩, hB⟩
  · obtain rfl : b = false := by cases b; rfl; exact absurd (hb.1 rfl) h
    refine (known_bad l A c w hl hm (Classical.byContradiction fun h1 => h fun p hp => Classical.byContradiction fun hn => h1 ⟨p, hp, hn⟩)).mono ?_
    rintro e w' ⟨rfl, hB⟩
    exact ⟨⟨_, _, _, rfl⟩, hB⟩

set_option maxRecDepth 100000 in
set_option maxHeartbeats 16000000 in
theorem laid_x (l k : List (Pc Int)) (s : List (Pc Unit)) (A B D : Option Addr) (c d e9 : Nat) (_E : Nat → Addr) (w : World) (h1 : 200 < l.length) :
    Calls Tryd.prog 5 #[.slice A l.length c, .slice B k.length d, .slice D s.length e9] w fun e w' => e = .returned (.bool true) ∧ Below w.heap.size w w' := by
  have el : decide ((200 : Int) < (l.length : Int)) = true := decide_eq_true (by omega)
  go_enter Tryd.func5, Tryd.ntmps5
  go_wp2_with fail
  refine (first6_any _).mono ?_
  rintro e w1 ⟨rfl, hb1⟩
  have hw1 : Below w.heap.size w w1 := stepH (by (repeat' (first | with_reducible exact Below.refl _ _ | with_reducible assumption | with_reducible refine Below.drew ?_ | with_reducible refine below_drewN ?_ _ | with_reducible refine Below.setCell ?_ ?_ _ | with_reducible refine Below.alloc ?_ ?_ _ | omega | (simp; done) | (simp; omega)))) hb1
  have z1 := hw1.size
  clear hb1
  go_wp2_with fail
  go_ret
  exact ⟨rfl, by (repeat' (first | with_reducible exact Below.refl _ _ | with_reducible assumption | with_reducible refine Below.drew ?_ | with_reducible refine below_drewN ?_ _ | with_reducible refine Below.setCell ?_ ?_ _ | with_reducible refine Below.alloc ?_ ?_ _ | omega | (simp; done) | (simp; omega)))⟩

set_option maxRecDepth 100000 in
set_option maxHeartbeats 16000000 in
theorem laid_y (l k : List (Pc Int)) (s : List (Pc Unit)) (A B D : Option Addr) (c d e9 : Nat) (_E : Nat → Addr) (w : World) (h1 : l.length ≤ 200) (h2 : 200 < k.length) :
    Calls Tryd.prog 5 #[.slice A l.length c, .slice B k.length d, .slice D s.length e9] w fun e w' => e = .returned (.bool true) ∧ Below w.heap.size w w' := by
  have el : decide ((200 : Int) < (l.length : Int)) = false := decide_eq_false (by omega)
  have ek : decide ((200 : Int) < (k.length : Int)) = true := decide_eq_true (by omega)
  go_enter Tryd.func5, Tryd.ntmps5
  go_wp2_with fail
  refine (first6_any _).mono ?_
  rintro e w1 ⟨rfl, hb1⟩
  have hw1 : Below w.heap.size w w1 := stepH (by (repeat' (first | with_reducible exact Below.refl _ _ | with_reducible assumption | with_reducible refine Below.drew ?_ | with_reducible refine below_drewN ?_ _ | with_reducible refine Below.setCell ?_ ?_ _ | with_reducible refine Below.alloc ?_ ?_ _ | omega | (simp; done) | (simp; omega)))) hb1
  have z1 := hw1.size
  clear hb1
  go_wp2_with fail
  go_ret
  exact ⟨rfl, by (repeat' (first | with_reducible exact Below.refl _ _ | with_reducible assumption | with_reducible refine Below.drew ?_ | with_reducible refine below_drewN ?_ _ | with_reducible refine Below.setCell ?_ ?_ _ | with_reducible refine Below.alloc ?_ ?_ _ | omega | (simp; done) | (simp; omega)))⟩

set_option maxRecDepth 100000 in
set_option maxHeartbeats 16000000 in
theorem laid_z (l k : List (Pc Int)) (s : List (Pc Unit)) (A B D : Option Addr) (c d e9 : Nat) (_E : Nat → Addr) (w : World) (h1 : l.length ≤ 200) (h2 : k.length ≤ 200) (h3 : 200 < s.length) :
    Calls Tryd.prog 5 #[.slice A l.length c, .slice B k.length d, .slice D s.length e9] w fun e w' => e = .returned (.bool true) ∧ Below w.heap.size w w' := by
  have el : decide ((200 : Int) < (l.length : Int)) = false := decide_eq_false (by omega)
  have ek : decide ((200 : Int) < (k.length : Int)) = false := decide_eq_false (by omega)
  have es : decide ((200 : Int) < (s.length : Int)) = true := decide_eq_true (by omega)
  go_enter Tryd.func5, Tryd.ntmps5
  go_wp2_with fail
  refine (first6_any _).mono ?_
  rintro e w1 ⟨rfl, hb1⟩
  have hw1 : Below w.heap.size w w1 := stepH (by (repeat' (first | with_reducible exact Below.refl _ _ | with_reducible assumption | with_reducible refine Below.drew ?_ | with_reducible refine below_drewN ?_ _ | with_reducible refine Below.setCell ?_ ?_ _ | with_reducible refine Below.alloc ?_ ?_ _ | omega | (simp; done) | (simp; omega)))) hb1
  have z1 := hw1.size
  clear hb1
  go_wp2_with fail
  go_ret
  exact ⟨rfl, by (repeat' (first | with_reducible exact Below.refl _ _ | with_reducible assumption | with_reducible refine Below.drew ?_ | with_reducible refine below_drewN ?_ _ | with_reducible refine Below.setCell ?_ ?_ _ | with_reducible refine Below.alloc ?_ ?_ _ | omega | (simp; done) | (simp; omega)))⟩

set_option maxRecDepth 100000 in
set_option maxHeartbeats 16000000 in
theorem laid_a (l k : List (Pc Int)) (s : List (Pc Unit)) (A B D : Option Addr) (c d e9 : Nat) (E : Nat → Addr) (w : World) (hl : RowAt encP 3 w w.heap.size A l) (hk : RowAt encP 3 w w.heap.size B k) (hs : RowAt encU 2 w w.heap.size D s) (h1 : l.length ≤ 200) (h2 : k.length ≤ 200) (h3 : s.length ≤ 200) (hE : Env L6 E w) (bk : Bool) (hbl : ¬ ∀ p ∈ l, ValidP MD p) (hbk : bk = true ↔ ∀ p ∈ k, ValidP MD p) :
    Calls Tryd.prog 5 #[.slice A l.length c, .slice B k.length d, .slice D s.length e9] w fun e w' => e = .returned (.bool true) ∧ Below w.heap.size w w' := by
  have el : decide ((200 : Int) < (l.length : Int)) = false := decide_eq_false (by omega)
  have ek : decide ((200 : Int) < (k.length : Int)) = false := decide_eq_false (by omega)
  have es : decide ((200 : Int) < (s.length : Int)) = false := decide_eq_false (by omega)
  have HLl := Lib.hid hl
  have HKk := Lib.hid hk
  have HSs := Lib.hid hs
  have HBL := Lib.hid hbl
  have HBK := Lib.hid hbk
  have HE := Lib.hid hE
  clear hl hk hs hE hbl hbk
  go_enter Tryd.func5, Tryd.ntmps5
  go_wp2_with fail
  refine (first6_any _).mono ?_
  rintro e w1 ⟨rfl, hb1⟩
  have hw1 : Below w.heap.size w w1 := stepH (by (repeat' (first | with_reducible exact Below.refl _ _ | with_reducible assumption | with_reducible refine Below.drew ?_ | with_reducible refine below_drewN ?_ _ | with_reducible refine Below.setCell ?_ ?_ _ | with_reducible refine Below.alloc ?_ ?_ _ | omega | (simp; done) | (simp; omega)))) hb1
  have z1 := hw1.size
  clear hb1
  go_wp2_with fail
  refine (piecesL_any l A c _ (moved6 HLl.out (by (repeat' (first | with_reducible exact Below.refl _ _ | with_reducible assumption | with_reducible refine Below.drew ?_ | with_reducible refine below_drewN ?_ _ | with_reducible refine Below.setCell ?_ ?_ _ | with_reducible refine Below.alloc ?_ ?_ _ | omega | (simp; done) | (simp; omega))))) (by omega)).mono ?_
  rintro e w2 ⟨⟨A2, c2, rfl, hr2⟩, hb2⟩
  have hw2 : Below w.heap.size w w2 := stepH (by (repeat' (first | with_reducible exact Below.refl _ _ | with_reducible assumption | with_reducible refine Below.drew ?_ | with_reducible refine below_drewN ?_ _ | with_reducible refine Below.setCell ?_ ?_ _ | with_reducible refine Below.alloc ?_ ?_ _ | omega | (simp; done) | (simp; omega)))) hb2
  have HR2 := Lib.hid hr2
  clear hr2
  have z2 := hw2.size
  clear hb2 hw1 z1
  go_wp2_with fail
  refine (make6_some l A2 c2 E _ HR2.out (by omega) (HE.out.below (by (repeat' (first | with_reducible exact Below.refl _ _ | with_reducible assumption | with_reducible refine Below.drew ?_ | with_reducible refine below_drewN ?_ _ | with_reducible refine Below.setCell ?_ ?_ _ | with_reducible refine Below.alloc ?_ ?_ _ | omega | (simp; done) | (simp; omega)))))).mono ?_
  rintro e w3 ⟨⟨A3, n3, c3, x3, rfl⟩, hb3⟩
  have hw3 : Below w.heap.size w w3 := stepH (by (repeat' (first | with_reducible exact Below.refl _ _ | with_reducible assumption | with_reducible refine Below.drew ?_ | with_reducible refine below_drewN ?_ _ | with_reducible refine Below.setCell ?_ ?_ _ | with_reducible refine Below.alloc ?_ ?_ _ | omega | (simp; done) | (simp; omega)))) hb3
  have z3 := hw3.size
  clear hb3 hw2 z2
  go_wp2_with fail
  refine (piecesL_any k B d _ (moved6 HKk.out (by (repeat' (first | with_reducible exact Below.refl _ _ | with_reducible assumption | with_reducible refine Below.drew ?_ | with_reducible refine below_drewN ?_ _ | with_reducible refine Below.setCell ?_ ?_ _ | with_reducible refine Below.alloc ?_ ?_ _ | omega | (simp; done) | (simp; omega))))) (by omega)).mono ?_
  rintro e w4 ⟨⟨A4, c4, rfl, hr4⟩, hb4⟩
  have hw4 : Below w.heap.size w w4 := stepH (by (repeat' (first | with_reducible exact Below.refl _ _ | with_reducible assumption | with_reducible refine Below.drew ?_ | with_reducible refine below_drewN ?_ _ | with_reducible refine Below.setCell ?_ ?_ _ | with_reducible refine Below.alloc ?_ ?_ _ | omega | (simp; done) | (simp; omega)))) hb4
  have HR4 := Lib.hid hr4
  clear hr4
  have X := keepH hb4 (g := w3.heap.size) (blk_new rfl)
  have z4 := hw4.size
  clear hb4 hw3 z3
  have cX := cellH X
  obtain ⟨lX, lX1, lX2⟩ := ltH X
  go_wp2_with fail
  refine (make6_some k A4 c4 E _ HR4.out (by omega) (HE.out.below (by (repeat' (first | with_reducible exact Below.refl _ _ | with_reducible assumption | with_reducible refine Below.drew ?_ | with_reducible refine below_drewN ?_ _ | with_reducible refine Below.setCell ?_ ?_ _ | with_reducible refine Below.alloc ?_ ?_ _ | omega | (simp; done) | (simp; omega)))))).mono ?_
  rintro e w5 ⟨⟨A5, n5, c5, x5, rfl⟩, hb5⟩
  have hw5 : Below w.heap.size w w5 := stepH (by (repeat' (first | with_reducible exact Below.refl _ _ | with_reducible assumption | with_reducible refine Below.drew ?_ | with_reducible refine below_drewN ?_ _ | with_reducible refine Below.setCell ?_ ?_ _ | with_reducible refine Below.alloc ?_ ?_ _ | omega | (simp; done) | (simp; omega)))) hb5
  replace X := keepH hb5 X.out
  have z5 := hw5.size
  clear hb5 hw4 z4
  clear cX lX lX1 lX2
  have cX := cellH X
  obtain ⟨lX, lX1, lX2⟩ := ltH X
  go_wp2_with fail
  refine (makeU_some s D e9 E _ (moved6 HSs.out (by (repeat' (first | with_reducible exact Below.refl _ _ | with_reducible assumption | with_reducible refine Below.drew ?_ | with_reducible refine below_drewN ?_ _ | with_reducible refine Below.setCell ?_ ?_ _ | with_reducible refine Below.alloc ?_ ?_ _ | omega | (simp; done) | (simp; omega))))) (by omega) (HE.out.below (by (repeat' (first | with_reducible exact Below.refl _ _ | with_reducible assumption | with_reducible refine Below.drew ?_ | with_reducible refine below_drewN ?_ _ | with_reducible refine Below.setCell ?_ ?_ _ | with_reducible refine Below.alloc ?_ ?_ _ | omega | (simp; done) | (simp; omega)))))).mono ?_
  rintro e w6 ⟨⟨A6, n6, c6, x6, rfl⟩, hb6⟩
  have hw6 : Below w.heap.size w w6 := stepH (by (repeat' (first | with_reducible exact Below.refl _ _ | with_reducible assumption | with_reducible refine Below.drew ?_ | with_reducible refine below_drewN ?_ _ | with_reducible refine Below.setCell ?_ ?_ _ | with_reducible refine Below.alloc ?_ ?_ _ | omega | (simp; done) | (simp; omega)))) hb6
  replace X := keepH hb6 (blk_old X.out)
  have Y := keepH hb6 (g := w5.heap.size) (blk_new rfl)
  have z6 := hw6.size
  clear hb6 hw5 z5
  clear cX lX lX1 lX2
  have cX := cellH X
  obtain ⟨lX, lX1, lX2⟩ := ltH X
  have cY := cellH Y
  obtain ⟨lY, lY1, lY2⟩ := ltH Y
  go_wp2_with fail
  refine (known_is l A c false _ ⟨fun h => (by cases h), fun h => absurd h HBL.out⟩ (moved6 HLl.out (by (repeat' (first | with_reducible exact Below.refl _ _ | with_reducible assumption | with_reducible refine Below.drew ?_ | with_reducible refine below_drewN ?_ _ | with_reducible refine Below.setCell ?_ ?_ _ | with_reducible refine Below.alloc ?_ ?_ _ | omega | (simp; done) | (simp; omega))))) (by omega)).mono ?_
  rintro e w7 ⟨⟨A7, n7, c7, rfl⟩, hb7⟩
  have hw7 : Below w.heap.size w w7 := stepH (by (repeat' (first | with_reducible exact Below.refl _ _ | with_reducible assumption | with_reducible refine Below.drew ?_ | with_reducible refine below_drewN ?_ _ | with_reducible refine Below.setCell ?_ ?_ _ | with_reducible refine Below.alloc ?_ ?_ _ | omega | (simp; done) | (simp; omega)))) hb7
  replace X := keepH hb7 (blk_old X.out)
  replace Y := keepH hb7 (blk_old Y.out)
  have Z := keepH hb7 (g := w6.heap.size) (blk_new rfl)
  have z7 := hw7.size
  clear hb7 hw6 z6
  clear cX lX lX1 lX2 cY lY lY1 lY2
  have cX := cellH X
  obtain ⟨lX, lX1, lX2⟩ := ltH X
  have cY := cellH Y
  obtain ⟨lY, lY1, lY2⟩ := ltH Y
  have cZ := cellH Z
  obtain ⟨lZ, lZ1, lZ2⟩ := ltH Z
  go_wp2_with fail
  refine (known_is k B d bk _ HBK.out (moved6 HKk.out (by (repeat' (first | with_reducible exact Below.refl _ _ | with_reducible assumption | with_reducible refine Below.drew ?_ | with_reducible refine below_drewN ?_ _ | with_reducible refine Below.setCell ?_ ?_ _ | with_reducible refine Below.alloc ?_ ?_ _ | omega | (simp; done) | (simp; omega))))) (by omega)).mono ?_
  rintro e w8 ⟨⟨A8, n8, c8, rfl⟩, hb8⟩
  have hw8 : Below w.heap.size w w8 := stepH (by (repeat' (first | with_reducible exact Below.refl _ _ | with_reducible assumption | with_reducible refine Below.drew ?_ | with_reducible refine below_drewN ?_ _ | with_reducible refine Below.setCell ?_ ?_ _ | with_reducible refine Below.alloc ?_ ?_ _ | omega | (simp; done) | (simp; omega)))) hb8
  replace X := keepH hb8 X.out
  replace Y := keepH hb8 Y.out
  replace Z := keepH hb8 Z.out
  have z8 := hw8.size
  clear hb8 hw7 z7
  clear cX lX lX1 lX2 cY lY lY1 lY2 cZ lZ lZ1 lZ2
  have cX := cellH X
  obtain ⟨lX, lX1, lX2⟩ := ltH X
  have cY := cellH Y
  obtain ⟨lY, lY1, lY2⟩ := ltH Y
  have cZ := cellH Z
  obtain ⟨lZ, lZ1, lZ2⟩ := ltH Z
  go_wp2_with fail
  go_ret
  exact ⟨rfl, by (repeat' (first | with_reducible exact Below.refl _ _ | with_reducible assumption | with_reducible refine Below.drew ?_ | with_reducible refine below_drewN ?_ _ | with_reducible refine Below.setCell ?_ ?_ _ | with_reducible refine Below.alloc ?_ ?_ _ | omega | (simp; done) | (simp; omega)))⟩

set_option maxRecDepth 100000 in
set_option maxHeartbeats 16000000 in
theorem laid_b (l k : List (Pc Int)) (s : List (Pc Unit)) (A B D : Option Addr) (c d e9 : Nat) (E : Nat → Addr) (w : World) (hl : RowAt encP 3 w w.heap.size A l) (hk : RowAt encP 3 w w.heap.size B k) (hs : RowAt encU 2 w w.heap.size D s) (h1 : l.length ≤ 200) (h2 : k.length ≤ 200) (h3 : s.length ≤ 200) (hE : Env L6 E w) (hbl : ∀ p ∈ l, ValidP MD p) (hbk : ¬ ∀ p ∈ k, ValidP MD p) :
    Calls Tryd.prog 5 #[.slice A l.length c, .slice B k.length d, .slice D s.length e9] w fun e w' => e = .returned (.bool true) ∧ Below w.heap.size w w' := by
  have el : decide ((200 : Int) < (l.length : Int)) = false := decide_eq_false (by omega)
  have ek : decide ((200 : Int) < (k.length : Int)) = false := decide_eq_false (by omega)
  have es : decide ((200 : Int) < (s.length : Int)) = false := decide_eq_false (by omega)
  have HLl := Lib.hid hl
  have HKk := Lib.hid hk
  have HSs := Lib.hid hs
  have HBL := Lib.hid hbl
  have HBK := Lib.hid hbk
  have HE := Lib.hid hE
  clear hl hk hs hE hbl hbk
  go_enter Tryd.func5, Tryd.ntmps5
  go_wp2_with fail
  refine (first6_any _).mono ?_
  rintro e w1 ⟨rfl, hb1⟩
  have hw1 : Below w.heap.size w w1 := stepH (by (repeat' (first | with_reducible exact Below.refl _ _ | with_reducible assumption | with_reducible refine Below.drew ?_ | with_reducible refine below_drewN ?_ _ | with_reducible refine Below.setCell ?_ ?_ _ | with_reducible refine Below.alloc ?_ ?_ _ | omega | (simp; done) | (simp; omega)))) hb1
  have z1 := hw1.size
  clear hb1
  go_wp2_with fail
  refine (piecesL_any l A c _ (moved6 HLl.out (by (repeat' (first | with_reducible exact Below.refl _ _ | with_reducible assumption | with_reducible refine Below.drew ?_ | with_reducible refine below_drewN ?_ _ | with_reducible refine Below.setCell ?_ ?_ _ | with_reducible refine Below.alloc ?_ ?_ _ | omega | (simp; done) | (simp; omega))))) (by omega)).mono ?_
  rintro e w2 ⟨⟨A2, c2, rfl, hr2⟩, hb2⟩
  have hw2 : Below w.heap.size w w2 := stepH (by (repeat' (first | with_reducible exact Below.refl _ _ | with_reducible assumption | with_reducible refine Below.drew ?_ | with_reducible refine below_drewN ?_ _ | with_reducible refine Below.setCell ?_ ?_ _ | with_reducible refine Below.alloc ?_ ?_ _ | omega | (simp; done) | (simp; omega)))) hb2
  have HR2 := Lib.hid hr2
  clear hr2
  have z2 := hw2.size
  clear hb2 hw1 z1
  go_wp2_with fail
  refine (make6_some l A2 c2 E _ HR2.out (by omega) (HE.out.below (by (repeat' (first | with_reducible exact Below.refl _ _ | with_reducible assumption | with_reducible refine Below.drew ?_ | with_reducible refine below_drewN ?_ _ | with_reducible refine Below.setCell ?_ ?_ _ | with_reducible refine Below.alloc ?_ ?_ _ | omega | (simp; done) | (simp; omega)))))).mono ?_
  rintro e w3 ⟨⟨A3, n3, c3, x3, rfl⟩, hb3⟩
  have hw3 : Below w.heap.size w w3 := stepH (by (repeat' (first | with_reducible exact Below.refl _ _ | with_reducible assumption | with_reducible refine Below.drew ?_ | with_reducible refine below_drewN ?_ _ | with_reducible refine Below.setCell ?_ ?_ _ | with_reducible refine Below.alloc ?_ ?_ _ | omega | (simp; done) | (simp; omega)))) hb3
  have z3 := hw3.size
  clear hb3 hw2 z2
  go_wp2_with fail
  refine (piecesL_any k B d _ (moved6 HKk.out (by (repeat' (first | with_reducible exact Below.refl _ _ | with_reducible assumption | with_reducible refine Below.drew ?_ | with_reducible refine below_drewN ?_ _ | with_reducible refine Below.setCell ?_ ?_ _ | with_reducible refine Below.alloc ?_ ?_ _ | omega | (simp; done) | (simp; omega))))) (by omega)).mono ?_
  rintro e w4 ⟨⟨A4, c4, rfl, hr4⟩, hb4⟩
  have hw4 : Below w.heap.size w w4 := stepH (by (repeat' (first | with_reducible exact Below.refl _ _ | with_reducible assumption | with_reducible refine Below.drew ?_ | with_reducible refine below_drewN ?_ _ | with_reducible refine Below.setCell ?_ ?_ _ | with_reducible refine Below.alloc ?_ ?_ _ | omega | (simp; done) | (simp; omega)))) hb4
  have HR4 := Lib.hid hr4
  clear hr4
  have X := keepH hb4 (g := w3.heap.size) (blk_new rfl)
  have z4 := hw4.size
  clear hb4 hw3 z3
  have cX := cellH X
  obtain ⟨lX, lX1, lX2⟩ := ltH X
  go_wp2_with fail
  refine (make6_some k A4 c4 E _ HR4.out (by omega) (HE.out.below (by (repeat' (first | with_reducible exact Below.refl _ _ | with_reducible assumption | with_reducible refine Below.drew ?_ | with_reducible refine below_drewN ?_ _ | with_reducible refine Below.setCell ?_ ?_ _ | with_reducible refine Below.alloc ?_ ?_ _ | omega | (simp; done) | (simp; omega)))))).mono ?_
  rintro e w5 ⟨⟨A5, n5, c5, x5, rfl⟩, hb5⟩
  have hw5 : Below w.heap.size w w5 := stepH (by (repeat' (first | with_reducible exact Below.refl _ _ | with_reducible assumption | with_reducible refine Below.drew ?_ | with_reducible refine below_drewN ?_ _ | with_reducible refine Below.setCell ?_ ?_ _ | with_reducible refine Below.alloc ?_ ?_ _ | omega | (simp; done) | (simp; omega)))) hb5
  replace X := keepH hb5 X.out
  have z5 := hw5.size
  clear hb5 hw4 z4
  clear cX lX lX1 lX2
  have cX := cellH X
  obtain ⟨lX, lX1, lX2⟩ := ltH X
  go_wp2_with fail
  refine (makeU_some s D e9 E _ (moved6 HSs.out (by (repeat' (first | with_reducible exact Below.refl _ _ | with_reducible assumption | with_reducible refine Below.drew ?_ | with_reducible refine below_drewN ?_ _ | with_reducible refine Below.setCell ?_ ?_ _ | with_reducible refine Below.alloc ?_ ?_ _ | omega | (simp; done) | (simp; omega))))) (by omega) (HE.out.below (by (repeat' (first | with_reducible exact Below.refl _ _ | with_reducible assumption | with_reducible refine Below.drew ?_ | with_reducible refine below_drewN ?_ _ | with_reducible refine Below.setCell ?_ ?_ _ | with_reducible refine Below.alloc ?_ ?_ _ | omega | (simp; done) | (simp; omega)))))).mono ?_
  rintro e w6 ⟨⟨A6, n6, c6, x6, rfl⟩, hb6⟩
  have hw6 : Below w.heap.size w w6 := stepH (by (repeat' (first | with_reducible exact Below.refl _ _ | with_reducible assumption | with_reducible refine Below.drew ?_ | with_reducible refine below_drewN ?_ _ | with_reducible refine Below.setCell ?_ ?_ _ | with_reducible refine Below.alloc ?_ ?_ _ | omega | (simp; done) | (simp; omega)))) hb6
  replace X := keepH hb6 (blk_old X.out)
  have Y := keepH hb6 (g := w5.heap.size) (blk_new rfl)
  have z6 := hw6.size
  clear hb6 hw5 z5
  clear cX lX lX1 lX2
  have cX := cellH X
  obtain ⟨lX, lX1, lX2⟩ := ltH X
  have cY := cellH Y
  obtain ⟨lY, lY1, lY2⟩ := ltH Y
  go_wp2_with fail
  refine (known_is l A c true _ ⟨fun _ => HBL.out, fun _ => rfl⟩ (moved6 HLl.out (by (repeat' (first | with_reducible exact Below.refl _ _ | with_reducible assumption | with_reducible refine Below.drew ?_ | with_reducible refine below_drewN ?_ _ | with_reducible refine Below.setCell ?_ ?_ _ | with_reducible refine Below.alloc ?_ ?_ _ | omega | (simp; done) | (simp; omega))))) (by omega)).mono ?_
  rintro e w7 ⟨⟨A7, n7, c7, rfl⟩, hb7⟩
  have hw7 : Below w.heap.size w w7 := stepH (by (repeat' (first | with_reducible exact Below.refl _ _ | with_reducible assumption | with_reducible refine Below.drew ?_ | with_reducible refine below_drewN ?_ _ | with_reducible refine Below.setCell ?_ ?_ _ | with_reducible refine Below.alloc ?_ ?_ _ | omega | (simp; done) | (simp; omega)))) hb7
  replace X := keepH hb7 (blk_old X.out)
  replace Y := keepH hb7 (blk_old Y.out)
  have Z := keepH hb7 (g := w6.heap.size) (blk_new rfl)
  have z7 := hw7.size
  clear hb7 hw6 z6
  clear cX lX lX1 lX2 cY lY lY1 lY2
  have cX := cellH X
  obtain ⟨lX, lX1, lX2⟩ := ltH X
  have cY := cellH Y
  obtain ⟨lY, lY1, lY2⟩ := ltH Y
  have cZ := cellH Z
  obtain ⟨lZ, lZ1, lZ2⟩ := ltH Z
  go_wp2_with fail
  refine (known_is k B d false _ ⟨fun h => (by cases h), fun h => absurd h HBK.out⟩ (moved6 HKk.out (by (repeat' (first | with_reducible exact Below.refl _ _ | with_reducible assumption | with_reducible refine Below.drew ?_ | with_reducible refine below_drewN ?_ _ | with_reducible refine Below.setCell ?_ ?_ _ | with_reducible refine Below.alloc ?_ ?_ _ | omega | (simp; done) | (simp; omega))))) (by omega)).mono ?_
  rintro e w8 ⟨⟨A8, n8, c8, rfl⟩, hb8⟩
  have hw8 : Below w.heap.size w w8 := stepH (by (repeat' (first | with_reducible exact Below.refl _ _ | with_reducible assumption | with_reducible refine Below.drew ?_ | with_reducible refine below_drewN ?_ _ | with_reducible refine Below.setCell ?_ ?_ _ | with_reducible refine Below.alloc ?_ ?_ _ | omega | (simp; done) | (simp; omega)))) hb8
  replace X := keepH hb8 X.out
  replace Y := keepH hb8 Y.out
  replace Z := keepH hb8 Z.out
  have z8 := hw8.size
  clear hb8 hw7 z7
  clear cX lX lX1 lX2 cY lY lY1 lY2 cZ lZ lZ1 lZ2
  have cX := cellH X
  obtain ⟨lX, lX1, lX2⟩ := ltH X
  have cY := cellH Y
  obtain ⟨lY, lY1, lY2⟩ := ltH Y
  have cZ := cellH Z
  obtain ⟨lZ, lZ1, lZ2⟩ := ltH Z
  go_wp2_with fail
  go_ret
  exact ⟨rfl, by (repeat' (first | with_reducible exact Below.refl _ _ | with_reducible assumption | with_reducible refine Below.drew ?_ | with_reducible refine below_drewN ?_ _ | with_reducible refine Below.setCell ?_ ?_ _ | with_reducible refine Below.alloc ?_ ?_ _ | omega | (simp; done) | (simp; omega)))⟩

set_option maxRecDepth 100000 in
set_option maxHeartbeats 16000000 in
theorem laid_c (l k : List (Pc Int)) (s : List (Pc Unit)) (A B D : Option Addr) (c d e9 : Nat) (E : Nat → Addr) (w : World) (hl : RowAt encP 3 w w.heap.size A l) (hk : RowAt encP 3 w w.heap.size B k) (hs : RowAt encU 2 w w.heap.size D s) (h1 : l.length ≤ 200) (h2 : k.length ≤ 200) (h3 : s.length ≤ 200) (hE : Env L6 E w) (hbl : ∀ p ∈ l, ValidP MD p) (hbk : ∀ p ∈ k, ValidP MD p) (hbs : ¬ ∀ p ∈ s, ValidS MD p) :
    Calls Tryd.prog 5 #[.slice A l.length c, .slice B k.length d, .slice D s.length e9] w fun e w' => e = .returned (.bool true) ∧ Below w.heap.size w w' := by
  have el : decide ((200 : Int) < (l.length : Int)) = false := decide_eq_false (by omega)
  have ek : decide ((200 : Int) < (k.length : Int)) = false := decide_eq_false (by omega)
  have es : decide ((200 : Int) < (s.length : Int)) = false := decide_eq_false (by omega)
  have HLl := Lib.hid hl
  have HKk := Lib.hid hk
  have HSs := Lib.hid hs
  have HBL := Lib.hid hbl
  have HBK := Lib.hid hbk
  have HBS := Lib.hid hbs
  have HE := Lib.hid hE
  clear hl hk hs hE hbl hbk hbs
  go_enter Tryd.func5, Tryd.ntmps5
  go_wp2_with fail
  refine (first6_any _).mono ?_
  rintro e w1 ⟨rfl, hb1⟩
  have hw1 : Below w.heap.size w w1 := stepH (by (repeat' (first | with_reducible exact Below.refl _ _ | with_reducible assumption | with_reducible refine Below.drew ?_ | with_reducible refine below_drewN ?_ _ | with_reducible refine Below.setCell ?_ ?_ _ | with_reducible refine Below.alloc ?_ ?_ _ | omega | (simp; done) | (simp; omega)))) hb1
  have z1 := hw1.size
  clear hb1
  go_wp2_with fail
  refine (piecesL_any l A c _ (moved6 HLl.out (by (repeat' (first | with_reducible exact Below.refl _ _ | with_reducible assumption | with_reducible refine Below.drew ?_ | with_reducible refine below_drewN ?_ _ | with_reducible refine Below.setCell ?_ ?_ _ | with_reducible refine Below.alloc ?_ ?_ _ | omega | (simp; done) | (simp; omega))))) (by omega)).mono ?_
  rintro e w2 ⟨⟨A2, c2, rfl, hr2⟩, hb2⟩
  have hw2 : Below w.heap.size w w2 := stepH (by (repeat' (first | with_reducible exact Below.refl _ _ | with_reducible assumption | with_reducible refine Below.drew ?_ | with_reducible refine below_drewN ?_ _ | with_reducible refine Below.setCell ?_ ?_ _ | with_reducible refine Below.alloc ?_ ?_ _ | omega | (simp; done) | (simp; omega)))) hb2
  have HR2 := Lib.hid hr2
  clear hr2
  have z2 := hw2.size
  clear hb2 hw1 z1
  go_wp2_with fail
  refine (make6_some l A2 c2 E _ HR2.out (by omega) (HE.out.below (by (repeat' (first | with_reducible exact Below.refl _ _ | with_reducible assumption | with_reducible refine Below.drew ?_ | with_reducible refine below_drewN ?_ _ | with_reducible refine Below.setCell ?_ ?_ _ | with_reducible refine Below.alloc ?_ ?_ _ | omega | (simp; done) | (simp; omega)))))).mono ?_
  rintro e w3 ⟨⟨A3, n3, c3, x3, rfl⟩, hb3⟩
  have hw3 : Below w.heap.size w w3 := stepH (by (repeat' (first | with_reducible exact Below.refl _ _ | with_reducible assumption | with_reducible refine Below.drew ?_ | with_reducible refine below_drewN ?_ _ | with_reducible refine Below.setCell ?_ ?_ _ | with_reducible refine Below.alloc ?_ ?_ _ | omega | (simp; done) | (simp; omega)))) hb3
  have z3 := hw3.size
  clear hb3 hw2 z2
  go_wp2_with fail
  refine (piecesL_any k B d _ (moved6 HKk.out (by (repeat' (first | with_reducible exact Below.refl _ _ | with_reducible assumption | with_reducible refine Below.drew ?_ | with_reducible refine below_drewN ?_ _ | with_reducible refine Below.setCell ?_ ?_ _ | with_reducible refine Below.alloc ?_ ?_ _ | omega | (simp; done) | (simp; omega))))) (by omega)).mono ?_
  rintro e w4 ⟨⟨A4, c4, rfl, hr4⟩, hb4⟩
  have hw4 : Below w.heap.size w w4 := stepH (by (repeat' (first | with_reducible exact Below.refl _ _ | with_reducible assumption | with_reducible refine Below.drew ?_ | with_reducible refine below_drewN ?_ _ | with_reducible refine Below.setCell ?_ ?_ _ | with_reducible refine Below.alloc ?_ ?_ _ | omega | (simp; done) | (simp; omega)))) hb4
  have HR4 := Lib.hid hr4
  clear hr4
  have X := keepH hb4 (g := w3.heap.size) (blk_new rfl)
  have z4 := hw4.size
  clear hb4 hw3 z3
  have cX := cellH X
  obtain ⟨lX, lX1, lX2⟩ := ltH X
  go_wp2_with fail
  refine (make6_some k A4 c4 E _ HR4.out (by omega) (HE.out.below (by (repeat' (first | with_reducible exact Below.refl _ _ | with_reducible assumption | with_reducible refine Below.drew ?_ | with_reducible refine below_drewN ?_ _ | with_reducible refine Below.setCell ?_ ?_ _ | with_reducible refine Below.alloc ?_ ?_ _ | omega | (simp; done) | (simp; omega)))))).mono ?_
  rintro e w5 ⟨⟨A5, n5, c5, x5, rfl⟩, hb5⟩
  have hw5 : Below w.heap.size w w5 := stepH (by (repeat' (first | with_reducible exact Below.refl _ _ | with_reducible assumption | with_reducible refine Below.drew ?_ | with_reducible refine below_drewN ?_ _ | with_reducible refine Below.setCell ?_ ?_ _ | with_reducible refine Below.alloc ?_ ?_ _ | omega | (simp; done) | (simp; omega)))) hb5
  replace X := keepH hb5 X.out
  have z5 := hw5.size
  clear hb5 hw4 z4
  clear cX lX lX1 lX2
  have cX := cellH X
  obtain ⟨lX, lX1, lX2⟩ := ltH X
  go_wp2_with fail
  refine (makeU_some s D e9 E _ (moved6 HSs.out (by (repeat' (first | with_reducible exact Below.refl _ _ | with_reducible assumption | with_reducible refine Below.drew ?_ | with_reducible refine below_drewN ?_ _ | with_reducible refine Below.setCell ?_ ?_ _ | with_reducible refine Below.alloc ?_ ?_ _ | omega | (simp; done) | (simp; omega))))) (by omega) (HE.out.below (by (repeat' (first | with_reducible exact Below.refl _ _ | with_reducible assumption | with_reducible refine Below.drew ?_ | with_reducible refine below_drewN ?_ _ | with_reducible refine Below.setCell ?_ ?_ _ | with_reducible refine Below.alloc ?_ ?_ _ | omega | (simp; done) | (simp; omega)))))).mono ?_
  rintro e w6 ⟨⟨A6, n6, c6, x6, rfl⟩, hb6⟩
  have hw6 : Below w.heap.size w w6 := stepH (by (repeat' (first | with_reducible exact Below.refl _ _ | with_reducible assumption | with_reducible refine Below.drew ?_ | with_reducible refine below_drewN ?_ _ | with_reducible refine Below.setCell ?_ ?_ _ | with_reducible refine Below.alloc ?_ ?_ _ | omega | (simp; done) | (simp; omega)))) hb6
  replace X := keepH hb6 (blk_old X.out)
  have Y := keepH hb6 (g := w5.heap.size) (blk_new rfl)
  have z6 := hw6.size
  clear hb6 hw5 z5
  clear cX lX lX1 lX2
  have cX := cellH X
  obtain ⟨lX, lX1, lX2⟩ := ltH X
  have cY := cellH Y
  obtain ⟨lY, lY1, lY2⟩ := ltH Y
  go_wp2_with fail
  refine (known_is l A c true _ ⟨fun _ => HBL.out, fun _ => rfl⟩ (moved6 HLl.out (by (repeat' (first | with_reducible exact Below.refl _ _ | with_reducible assumption | with_reducible refine Below.drew ?_ | with_reducible refine below_drewN ?_ _ | with_reducible refine Below.setCell ?_ ?_ _ | with_reducible refine Below.alloc ?_ ?_ _ | omega | (simp; done) | (simp; omega))))) (by omega)).mono ?_
  rintro e w7 ⟨⟨A7, n7, c7, rfl⟩, hb7⟩
  have hw7 : Below w.heap.size w w7 := stepH (by (repeat' (first | with_reducible exact Below.refl _ _ | with_reducible assumption | with_reducible refine Below.drew ?_ | with_reducible refine below_drewN ?_ _ | with_reducible refine Below.setCell ?_ ?_ _ | with_reducible refine Below.alloc ?_ ?_ _ | omega | (simp; done) | (simp; omega)))) hb7
  replace X := keepH hb7 (blk_old X.out)
  replace Y := keepH hb7 (blk_old Y.out)
  have Z := keepH hb7 (g := w6.heap.size) (blk_new rfl)
  have z7 := hw7.size
  clear hb7 hw6 z6
  clear cX lX lX1 lX2 cY lY lY1 lY2
  have cX := cellH X
  obtain ⟨lX, lX1, lX2⟩ := ltH X
  have cY := cellH Y
  obtain ⟨lY, lY1, lY2⟩ := ltH Y
  have cZ := cellH Z
  obtain ⟨lZ, lZ1, lZ2⟩ := ltH Z
  go_wp2_with fail
  refine (known_is k B d true _ ⟨fun _ => HBK.out, fun _ => rfl⟩ (moved6 HKk.out (by (repeat' (first | with_reducible exact Below.refl _ _ | with_reducible assumption | with_reducible refine Below.drew ?_ | with_reducible refine below_drewN ?_ _ | with_reducible refine Below.setCell ?_ ?_ _ | with_reducible refine Below.alloc ?_ ?_ _ | omega | (simp; done) | (simp; omega))))) (by omega)).mono ?_
  rintro e w8 ⟨⟨A8, n8, c8, rfl⟩, hb8⟩
  have hw8 : Below w.heap.size w w8 := stepH (by (repeat' (first | with_reducible exact Below.refl _ _ | with_reducible assumption | with_reducible refine Below.drew ?_ | with_reducible refine below_drewN ?_ _ | with_reducible refine Below.setCell ?_ ?_ _ | with_reducible refine Below.alloc ?_ ?_ _ | omega | (simp; done) | (simp; omega)))) hb8
  replace X := keepH hb8 X.out
  replace Y := keepH hb8 Y.out
  replace Z := keepH hb8 Z.out
  have z8 := hw8.size
  clear hb8 hw7 z7
  clear cX lX lX1 lX2 cY lY lY1 lY2 cZ lZ lZ1 lZ2
  have cX := cellH X
  obtain ⟨lX, lX1, lX2⟩ := ltH X
  have cY := cellH Y
  obtain ⟨lY, lY1, lY2⟩ := ltH Y
  have cZ := cellH Z
  obtain ⟨lZ, lZ1, lZ2⟩ := ltH Z
  go_wp2_with fail
  refine (spansAre_is6 s D e9 false _ ⟨fun h => (by cases h), fun h => absurd h HBS.out⟩ (moved6 HSs.out (by (repeat' (first | with_reducible exact Below.refl _ _ | with_reducible assumption | with_reducible refine Below.drew ?_ | with_reducible refine below_drewN ?_ _ | with_reducible refine Below.setCell ?_ ?_ _ | with_reducible refine Below.alloc ?_ ?_ _ | omega | (simp; done) | (simp; omega))))) (by omega)).mono ?_
  rintro e w9 ⟨rfl, hb9⟩
  have hw9 : Below w.heap.size w w9 := stepH (by (repeat' (first | with_reducible exact Below.refl _ _ | with_reducible assumption | with_reducible refine Below.drew ?_ | with_reducible refine below_drewN ?_ _ | with_reducible refine Below.setCell ?_ ?_ _ | with_reducible refine Below.alloc ?_ ?_ _ | omega | (simp; done) | (simp; omega)))) hb9
  replace X := keepH hb9 X.out
  replace Y := keepH hb9 Y.out
  replace Z := keepH hb9 Z.out
  have z9 := hw9.size
  clear hb9 hw8 z8
  clear cX lX lX1 lX2 cY lY lY1 lY2 cZ lZ lZ1 lZ2
  have cX := cellH X
  obtain ⟨lX, lX1, lX2⟩ := ltH X
  have cY := cellH Y
  obtain ⟨lY, lY1, lY2⟩ := ltH Y
  have cZ := cellH Z
  obtain ⟨lZ, lZ1, lZ2⟩ := ltH Z
  go_wp2_with fail
  go_ret
  exact ⟨rfl, by (repeat' (first | with_reducible exact Below.refl _ _ | with_reducible assumption | with_reducible refine Below.drew ?_ | with_reducible refine below_drewN ?_ _ | with_reducible refine Below.setCell ?_ ?_ _ | with_reducible refine Below.alloc ?_ ?_ _ | omega | (simp; done) | (simp; omega)))⟩

theorem over_made {ra rb : List (Pc Int)} {b b' : Int} (ha : Rise b ra) (hb : Rise b' rb) (n : Int) : valL (rb ++ ra).reverse n = overF (valL ra n) (valL rb n) := by
  rw [List.reverse_append, ← over_app, ha.rev, hb.rev]
theorem selO_eq (g : Int → Bool) (l : List (Pc Int)) : selL (fun _ => true) (l.filter (fun p => g p.v)) = selL g l := by
  unfold selL; simp [List.filter_filter]
theorem oddT_snoc {g : Int → Bool} {l : List (Pc Int)} {k : Nat} {p : Pc Int} (hp : l[k]? = some p) : (l.take (k + 1)).filter (fun p => g p.v) = (l.take k).filter (fun p => g p.v) ++ (if g p.v = true then [p] else []) := by
  rw [take_snoc hp, List.filter_append]
  by_cases h : g p.v = true
  · rw [if_pos h]; simp [h]
  · rw [if_neg h]; simp [h]

set_option maxRecDepth 100000 in
set_option maxHeartbeats 16000000 in
theorem laid_g (l k : List (Pc Int)) (s : List (Pc Unit)) (A B D : Option Addr) (c d e9 : Nat) (_E : Nat → Addr) (w : World) (hl : RowAt encP 3 w w.heap.size A l) (hk : RowAt encP 3 w w.heap.size B k) (hs : RowAt encU 2 w w.heap.size D s) (h1 : l.length ≤ 200) (h2 : k.length ≤ 200) (h3 : s.length ≤ 200) (hbl : ∀ p ∈ l, ValidP MD p) (hbk : ∀ p ∈ k, ValidP MD p) (hbs : ∀ p ∈ s, ValidS MD p) :
    Calls Tryd.prog 5 #[.slice A l.length c, .slice B k.length d, .slice D s.length e9] w fun e w' => e = .returned (.bool true) ∧ Below w.heap.size w w' := by
  have el : decide ((200 : Int) < (l.length : Int)) = false := decide_eq_false (by omega)
  have ek : decide ((200 : Int) < (k.length : Int)) = false := decide_eq_false (by omega)
  have es : decide ((200 : Int) < (s.length : Int)) = false := decide_eq_false (by omega)
  have HLl := Lib.hid hl
  have HKk := Lib.hid hk
  have HSs := Lib.hid hs
  obtain ⟨inf0, hi, jz0, jz1, jz2⟩ := info_parts infoR6
  have HVL := Lib.hid hbl
  have HVK := Lib.hid hbk
  have HVS := Lib.hid hbs
  clear hl hk hs hbl hbk hbs
  go_enter Tryd.func5, Tryd.ntmps5
  go_wp2_with fail
  refine (first6_any _).mono ?_
  rintro e w1 ⟨rfl, hb1⟩
  have hw1 : Below w.heap.size w w1 := stepH (by (repeat' (first | with_reducible exact Below.refl _ _ | with_reducible assumption | with_reducible refine Below.drew ?_ | with_reducible refine below_drewN ?_ _ | with_reducible refine Below.setCell ?_ ?_ _ | with_reducible refine Below.alloc ?_ ?_ _ | omega | (simp; done) | (simp; omega)))) hb1
  have z1 := hw1.size
  clear hb1
  go_wp2_with fail
  refine (piecesL_any l A c _ (moved6 HLl.out (by (repeat' (first | with_reducible exact Below.refl _ _ | with_reducible assumption | with_reducible refine Below.drew ?_ | with_reducible refine below_drewN ?_ _ | with_reducible refine Below.setCell ?_ ?_ _ | with_reducible refine Below.alloc ?_ ?_ _ | omega | (simp; done) | (simp; omega))))) (by omega)).mono ?_
  rintro e w2 ⟨⟨A2, c2, rfl, hr2⟩, hb2⟩
  have hw2 : Below w.heap.size w w2 := stepH (by (repeat' (first | with_reducible exact Below.refl _ _ | with_reducible assumption | with_reducible refine Below.drew ?_ | with_reducible refine below_drewN ?_ _ | with_reducible refine Below.setCell ?_ ?_ _ | with_reducible refine Below.alloc ?_ ?_ _ | omega | (simp; done) | (simp; omega)))) hb2
  have HR2 := Lib.hid hr2
  clear hr2
  have z2 := hw2.size
  clear hb2 hw1 z1
  go_wp2_with fail
  refine (make6_ok l A2 c2 _ HR2.out (by omega) HVL.out).mono ?_
  rintro e w3 ⟨⟨A3, c3, ra, rfl, hr3, hA3, hm3⟩, hb3⟩
  have hw3 : Below w.heap.size w w3 := stepH (by (repeat' (first | with_reducible exact Below.refl _ _ | with_reducible assumption | with_reducible refine Below.drew ?_ | with_reducible refine below_drewN ?_ _ | with_reducible refine Below.setCell ?_ ?_ _ | with_reducible refine Below.alloc ?_ ?_ _ | omega | (simp; done) | (simp; omega)))) hb3
  have HR3 := Lib.hid hr3
  have HM3 := Lib.hid hm3
  have HA3 := Lib.hid hA3
  have hra : ra.length ≤ 400 := by have h := hm3.len; omega
  clear hr3 hm3 hA3
  have z3 := hw3.size
  clear hb3 hw2 z2
  have a3 : Below w3.heap.size w3 w3 := Below.refl _ _
  have ya3 := a3.size
  go_wp2_with fail
  refine (piecesL_any k B d _ (moved6 HKk.out (by (repeat' (first | with_reducible exact Below.refl _ _ | with_reducible assumption | with_reducible refine Below.drew ?_ | with_reducible refine below_drewN ?_ _ | with_reducible refine Below.setCell ?_ ?_ _ | with_reducible refine Below.alloc ?_ ?_ _ | omega | (simp; done) | (simp; omega))))) (by omega)).mono ?_
  rintro e w4 ⟨⟨A4, c4, rfl, hr4⟩, hb4⟩
  have hw4 : Below w.heap.size w w4 := stepH (by (repeat' (first | with_reducible exact Below.refl _ _ | with_reducible assumption | with_reducible refine Below.drew ?_ | with_reducible refine below_drewN ?_ _ | with_reducible refine Below.setCell ?_ ?_ _ | with_reducible refine Below.alloc ?_ ?_ _ | omega | (simp; done) | (simp; omega)))) hb4
  replace a3 : Below w3.heap.size w3 w4 := stepH (by (repeat' (first | with_reducible exact Below.refl _ _ | with_reducible assumption | with_reducible refine Below.drew ?_ | with_reducible refine below_drewN ?_ _ | with_reducible refine Below.setCell ?_ ?_ _ | with_reducible refine Below.alloc ?_ ?_ _ | omega | (simp; done) | (simp; omega)))) hb4
  replace ya3 := a3.size
  have HR4 := Lib.hid hr4
  clear hr4
  have X := keepH hb4 (g := w3.heap.size) (blk_new rfl)
  have z4 := hw4.size
  clear hb4 hw3 z3
  have cX := cellH X
  obtain ⟨lX, lX1, lX2⟩ := ltH X
  go_wp2_with fail
  refine (make6_ok k A4 c4 _ HR4.out (by omega) HVK.out).mono ?_
  rintro e w5 ⟨⟨A5, c5, rb, rfl, hr5, hA5, hm5⟩, hb5⟩
  have hw5 : Below w.heap.size w w5 := stepH (by (repeat' (first | with_reducible exact Below.refl _ _ | with_reducible assumption | with_reducible refine Below.drew ?_ | with_reducible refine below_drewN ?_ _ | with_reducible refine Below.setCell ?_ ?_ _ | with_reducible refine Below.alloc ?_ ?_ _ | omega | (simp; done) | (simp; omega)))) hb5
  replace a3 : Below w3.heap.size w3 w5 := stepH (by (repeat' (first | with_reducible exact Below.refl _ _ | with_reducible assumption | with_reducible refine Below.drew ?_ | with_reducible refine below_drewN ?_ _ | with_reducible refine Below.setCell ?_ ?_ _ | with_reducible refine Below.alloc ?_ ?_ _ | omega | (simp; done) | (simp; omega)))) hb5
  replace ya3 := a3.size
  have HR5 := Lib.hid hr5
  have HM5 := Lib.hid hm5
  have HA5 := Lib.hid hA5
  have hrb : rb.length ≤ 400 := by have h := hm5.len; omega
  clear hr5 hm5 hA5
  replace X := keepH hb5 X.out
  have z5 := hw5.size
  clear hb5 hw4 z4
  clear cX lX lX1 lX2
  have cX := cellH X
  obtain ⟨lX, lX1, lX2⟩ := ltH X
  have a5 : Below w5.heap.size w5 w5 := Below.refl _ _
  have ya5 := a5.size
  go_wp2_with fail
  refine (makeS_ok s D e9 _ (moved6 HSs.out (by (repeat' (first | with_reducible exact Below.refl _ _ | with_reducible assumption | with_reducible refine Below.drew ?_ | with_reducible refine below_drewN ?_ _ | with_reducible refine Below.setCell ?_ ?_ _ | with_reducible refine Below.alloc ?_ ?_ _ | omega | (simp; done) | (simp; omega))))) (by omega) HVS.out).mono ?_
  rintro e w6 ⟨⟨A6, c6, rd, rfl, hr6, hA6, hs6⟩, hb6⟩
  have hw6 : Below w.heap.size w w6 := stepH (by (repeat' (first | with_reducible exact Below.refl _ _ | with_reducible assumption | with_reducible refine Below.drew ?_ | with_reducible refine below_drewN ?_ _ | with_reducible refine Below.setCell ?_ ?_ _ | with_reducible refine Below.alloc ?_ ?_ _ | omega | (simp; done) | (simp; omega)))) hb6
  replace a3 : Below w3.heap.size w3 w6 := stepH (by (repeat' (first | with_reducible exact Below.refl _ _ | with_reducible assumption | with_reducible refine Below.drew ?_ | with_reducible refine below_drewN ?_ _ | with_reducible refine Below.setCell ?_ ?_ _ | with_reducible refine Below.alloc ?_ ?_ _ | omega | (simp; done) | (simp; omega)))) hb6
  replace ya3 := a3.size
  replace a5 : Below w5.heap.size w5 w6 := stepH (by (repeat' (first | with_reducible exact Below.refl _ _ | with_reducible assumption | with_reducible refine Below.drew ?_ | with_reducible refine below_drewN ?_ _ | with_reducible refine Below.setCell ?_ ?_ _ | with_reducible refine Below.alloc ?_ ?_ _ | omega | (simp; done) | (simp; omega)))) hb6
  replace ya5 := a5.size
  have HR6 := Lib.hid hr6
  have HS6 := Lib.hid hs6
  have HA6 := Lib.hid hA6
  have hrd : rd.length ≤ 200 := by have h := hs6.len; omega
  clear hr6 hs6 hA6
  replace X := keepH hb6 (blk_old X.out)
  have Y := keepH hb6 (g := w5.heap.size) (blk_new rfl)
  have z6 := hw6.size
  clear hb6 hw5 z5
  clear cX lX lX1 lX2
  have cX := cellH X
  obtain ⟨lX, lX1, lX2⟩ := ltH X
  have cY := cellH Y
  obtain ⟨lY, lY1, lY2⟩ := ltH Y
  have a6 : Below w6.heap.size w6 w6 := Below.refl _ _
  have ya6 := a6.size
  go_wp2_with fail
  refine (known_new l A c _ (moved6 HLl.out (by (repeat' (first | with_reducible exact Below.refl _ _ | with_reducible assumption | with_reducible refine Below.drew ?_ | with_reducible refine below_drewN ?_ _ | with_reducible refine Below.setCell ?_ ?_ _ | with_reducible refine Below.alloc ?_ ?_ _ | omega | (simp; done) | (simp; omega))))) (by omega) HVL.out).mono ?_
  rintro e w7 ⟨⟨A7, c7, rx, rfl, hr7, hA7, hm7⟩, hb7⟩
  have hw7 : Below w.heap.size w w7 := stepH (by (repeat' (first | with_reducible exact Below.refl _ _ | with_reducible assumption | with_reducible refine Below.drew ?_ | with_reducible refine below_drewN ?_ _ | with_reducible refine Below.setCell ?_ ?_ _ | with_reducible refine Below.alloc ?_ ?_ _ | omega | (simp; done) | (simp; omega)))) hb7
  replace a3 : Below w3.heap.size w3 w7 := stepH (by (repeat' (first | with_reducible exact Below.refl _ _ | with_reducible assumption | with_reducible refine Below.drew ?_ | with_reducible refine below_drewN ?_ _ | with_reducible refine Below.setCell ?_ ?_ _ | with_reducible refine Below.alloc ?_ ?_ _ | omega | (simp; done) | (simp; omega)))) hb7
  replace ya3 := a3.size
  replace a5 : Below w5.heap.size w5 w7 := stepH (by (repeat' (first | with_reducible exact Below.refl _ _ | with_reducible assumption | with_reducible refine Below.drew ?_ | with_reducible refine below_drewN ?_ _ | with_reducible refine Below.setCell ?_ ?_ _ | with_reducible refine Below.alloc ?_ ?_ _ | omega | (simp; done) | (simp; omega)))) hb7
  replace ya5 := a5.size
  replace a6 : Below w6.heap.size w6 w7 := stepH (by (repeat' (first | with_reducible exact Below.refl _ _ | with_reducible assumption | with_reducible refine Below.drew ?_ | with_reducible refine below_drewN ?_ _ | with_reducible refine Below.setCell ?_ ?_ _ | with_reducible refine Below.alloc ?_ ?_ _ | omega | (simp; done) | (simp; omega)))) hb7
  replace ya6 := a6.size
  obtain rfl : ra = rx := HM3.out.uniq hm7
  have HR7 := Lib.hid hr7
  have HA7 := Lib.hid hA7
  clear hr7 hA7 hm7
  replace X := keepH hb7 (blk_old X.out)
  replace Y := keepH hb7 (blk_old Y.out)
  have Z := keepH hb7 (g := w6.heap.size) (blk_new rfl)
  have z7 := hw7.size
  clear hb7 hw6 z6
  clear cX lX lX1 lX2 cY lY lY1 lY2
  have cX := cellH X
  obtain ⟨lX, lX1, lX2⟩ := ltH X
  have cY := cellH Y
  obtain ⟨lY, lY1, lY2⟩ := ltH Y
  have cZ := cellH Z
  obtain ⟨lZ, lZ1, lZ2⟩ := ltH Z
  have a7 : Below w7.heap.size w7 w7 := Below.refl _ _
  have ya7 := a7.size
  go_wp2_with fail
  refine (known_new k B d _ (moved6 HKk.out (by (repeat' (first | with_reducible exact Below.refl _ _ | with_reducible assumption | with_reducible refine Below.drew ?_ | with_reducible refine below_drewN ?_ _ | with_reducible refine Below.setCell ?_ ?_ _ | with_reducible refine Below.alloc ?_ ?_ _ | omega | (simp; done) | (simp; omega))))) (by omega) HVK.out).mono ?_
  rintro e w8 ⟨⟨A8, c8, ry, rfl, hr8, hA8, hm8⟩, hb8⟩
  have hw8 : Below w.heap.size w w8 := stepH (by (repeat' (first | with_reducible exact Below.refl _ _ | with_reducible assumption | with_reducible refine Below.drew ?_ | with_reducible refine below_drewN ?_ _ | with_reducible refine Below.setCell ?_ ?_ _ | with_reducible refine Below.alloc ?_ ?_ _ | omega | (simp; done) | (simp; omega)))) hb8
  replace a3 : Below w3.heap.size w3 w8 := stepH (by (repeat' (first | with_reducible exact Below.refl _ _ | with_reducible assumption | with_reducible refine Below.drew ?_ | with_reducible refine below_drewN ?_ _ | with_reducible refine Below.setCell ?_ ?_ _ | with_reducible refine Below.alloc ?_ ?_ _ | omega | (simp; done) | (simp; omega)))) hb8
  replace ya3 := a3.size
  replace a5 : Below w5.heap.size w5 w8 := stepH (by (repeat' (first | with_reducible exact Below.refl _ _ | with_reducible assumption | with_reducible refine Below.drew ?_ | with_reducible refine below_drewN ?_ _ | with_reducible refine Below.setCell ?_ ?_ _ | with_reducible refine Below.alloc ?_ ?_ _ | omega | (simp; done) | (simp; omega)))) hb8
  replace ya5 := a5.size
  replace a6 : Below w6.heap.size w6 w8 := stepH (by (repeat' (first | with_reducible exact Below.refl _ _ | with_reducible assumption | with_reducible refine Below.drew ?_ | with_reducible refine below_drewN ?_ _ | with_reducible refine Below.setCell ?_ ?_ _ | with_reducible refine Below.alloc ?_ ?_ _ | omega | (simp; done) | (simp; omega)))) hb8
  replace ya6 := a6.size
  replace a7 : Below w7.heap.size w7 w8 := stepH (by (repeat' (first | with_reducible exact Below.refl _ _ | with_reducible assumption | with_reducible refine Below.drew ?_ | with_reducible refine below_drewN ?_ _ | with_reducible refine Below.setCell ?_ ?_ _ | with_reducible refine Below.alloc ?_ ?_ _ | omega | (simp; done) | (simp; omega)))) hb8
  replace ya7 := a7.size
  obtain rfl : rb = ry := HM5.out.uniq hm8
  have HR8 := Lib.hid hr8
  have HA8 := Lib.hid hA8
  clear hr8 hA8 hm8
  replace X := keepH hb8 X.out
  replace Y := keepH hb8 Y.out
  replace Z := keepH hb8 Z.out
  have z8 := hw8.size
  clear hb8 hw7 z7
  clear cX lX lX1 lX2 cY lY lY1 lY2 cZ lZ lZ1 lZ2
  have cX := cellH X
  obtain ⟨lX, lX1, lX2⟩ := ltH X
  have cY := cellH Y
  obtain ⟨lY, lY1, lY2⟩ := ltH Y
  have cZ := cellH Z
  obtain ⟨lZ, lZ1, lZ2⟩ := ltH Z
  have a8 : Below w8.heap.size w8 w8 := Below.refl _ _
  have ya8 := a8.size
  go_wp2_with fail
  refine (spansAre_is6 s D e9 true _ ⟨fun _ => HVS.out, fun _ => rfl⟩ (moved6 HSs.out (by (repeat' (first | with_reducible exact Below.refl _ _ | with_reducible assumption | with_reducible refine Below.drew ?_ | with_reducible refine below_drewN ?_ _ | with_reducible refine Below.setCell ?_ ?_ _ | with_reducible refine Below.alloc ?_ ?_ _ | omega | (simp; done) | (simp; omega))))) (by omega)).mono ?_
  rintro e w9 ⟨rfl, hb9⟩
  have hw9 : Below w.heap.size w w9 := stepH (by (repeat' (first | with_reducible exact Below.refl _ _ | with_reducible assumption | with_reducible refine Below.drew ?_ | with_reducible refine below_drewN ?_ _ | with_reducible refine Below.setCell ?_ ?_ _ | with_reducible refine Below.alloc ?_ ?_ _ | omega | (simp; done) | (simp; omega)))) hb9
  replace a3 : Below w3.heap.size w3 w9 := stepH (by (repeat' (first | with_reducible exact Below.refl _ _ | with_reducible assumption | with_reducible refine Below.drew ?_ | with_reducible refine below_drewN ?_ _ | with_reducible refine Below.setCell ?_ ?_ _ | with_reducible refine Below.alloc ?_ ?_ _ | omega | (simp; done) | (simp; omega)))) hb9
  replace ya3 := a3.size
  replace a5 : Below w5.heap.size w5 w9 := stepH (by (repeat' (first | with_reducible exact Below.refl _ _ | with_reducible assumption | with_reducible refine Below.drew ?_ | with_reducible refine below_drewN ?_ _ | with_reducible refine Below.setCell ?_ ?_ _ | with_reducible refine Below.alloc ?_ ?_ _ | omega | (simp; done) | (simp; omega)))) hb9
  replace ya5 := a5.size
  replace a6 : Below w6.heap.size w6 w9 := stepH (by (repeat' (first | with_reducible exact Below.refl _ _ | with_reducible assumption | with_reducible refine Below.drew ?_ | with_reducible refine below_drewN ?_ _ | with_reducible refine Below.setCell ?_ ?_ _ | with_reducible refine Below.alloc ?_ ?_ _ | omega | (simp; done) | (simp; omega)))) hb9
  replace ya6 := a6.size
  replace a7 : Below w7.heap.size w7 w9 := stepH (by (repeat' (first | with_reducible exact Below.refl _ _ | with_reducible assumption | with_reducible refine Below.drew ?_ | with_reducible refine below_drewN ?_ _ | with_reducible refine Below.setCell ?_ ?_ _ | with_reducible refine Below.alloc ?_ ?_ _ | omega | (simp; done) | (simp; omega)))) hb9
  replace ya7 := a7.size
  replace a8 : Below w8.heap.size w8 w9 := stepH (by (repeat' (first | with_reducible exact Below.refl _ _ | with_reducible assumption | with_reducible refine Below.drew ?_ | with_reducible refine below_drewN ?_ _ | with_reducible refine Below.setCell ?_ ?_ _ | with_reducible refine Below.alloc ?_ ?_ _ | omega | (simp; done) | (simp; omega)))) hb9
  replace ya8 := a8.size
  replace X := keepH hb9 X.out
  replace Y := keepH hb9 Y.out
  replace Z := keepH hb9 Z.out
  have z9 := hw9.size
  clear hb9 hw8 z8
  clear cX lX lX1 lX2 cY lY lY1 lY2 cZ lZ lZ1 lZ2
  have cX := cellH X
  obtain ⟨lX, lX1, lX2⟩ := ltH X
  have cY := cellH Y
  obtain ⟨lY, lY1, lY2⟩ := ltH Y
  have cZ := cellH Z
  obtain ⟨lZ, lZ1, lZ2⟩ := ltH Z
  have HVRA : Hid (∀ p ∈ ra, ValidP MD p) := fun p hp => ⟨(HM3.out.canon.rise.mem hp).1, (HM3.out.canon.rise.mem hp).2, HM3.out.canon.upTo p hp⟩
  have HVRB : Hid (∀ p ∈ rb, ValidP MD p) := fun p hp => ⟨(HM5.out.canon.rise.mem hp).1, (HM5.out.canon.rise.mem hp).2, HM5.out.canon.upTo p hp⟩
  go_wp2_with fail
  refine (over6_any ra rb A3 A5 c3 c5 _ (moved6 HR3.out (by (repeat' (first | with_reducible exact Below.refl _ _ | with_reducible assumption | with_reducible refine Below.drew ?_ | with_reducible refine below_drewN ?_ _ | with_reducible refine Below.setCell ?_ ?_ _ | with_reducible refine Below.alloc ?_ ?_ _ | omega | (simp; done) | (simp; omega))))) (moved6 HR5.out (by (repeat' (first | with_reducible exact Below.refl _ _ | with_reducible assumption | with_reducible refine Below.drew ?_ | with_reducible refine below_drewN ?_ _ | with_reducible refine Below.setCell ?_ ?_ _ | with_reducible refine Below.alloc ?_ ?_ _ | omega | (simp; done) | (simp; omega))))) (by omega) (by omega) HM3.out.canon.rise HM5.out.canon.rise HM3.out.canon.upTo HM5.out.canon.upTo).mono ?_
  rintro e w10 ⟨⟨A10, c10, r10, rfl, hr10, hA10, _, hc10, hv10⟩, hb10⟩
  have hw10 : Below w.heap.size w w10 := stepH (by (repeat' (first | with_reducible exact Below.refl _ _ | with_reducible assumption | with_reducible refine Below.drew ?_ | with_reducible refine below_drewN ?_ _ | with_reducible refine Below.setCell ?_ ?_ _ | with_reducible refine Below.alloc ?_ ?_ _ | omega | (simp; done) | (simp; omega)))) hb10
  replace a3 : Below w3.heap.size w3 w10 := stepH (by (repeat' (first | with_reducible exact Below.refl _ _ | with_reducible assumption | with_reducible refine Below.drew ?_ | with_reducible refine below_drewN ?_ _ | with_reducible refine Below.setCell ?_ ?_ _ | with_reducible refine Below.alloc ?_ ?_ _ | omega | (simp; done) | (simp; omega)))) hb10
  replace ya3 := a3.size
  replace a5 : Below w5.heap.size w5 w10 := stepH (by (repeat' (first | with_reducible exact Below.refl _ _ | with_reducible assumption | with_reducible refine Below.drew ?_ | with_reducible refine below_drewN ?_ _ | with_reducible refine Below.setCell ?_ ?_ _ | with_reducible refine Below.alloc ?_ ?_ _ | omega | (simp; done) | (simp; omega)))) hb10
  replace ya5 := a5.size
  replace a6 : Below w6.heap.size w6 w10 := stepH (by (repeat' (first | with_reducible exact Below.refl _ _ | with_reducible assumption | with_reducible refine Below.drew ?_ | with_reducible refine below_drewN ?_ _ | with_reducible refine Below.setCell ?_ ?_ _ | with_reducible refine Below.alloc ?_ ?_ _ | omega | (simp; done) | (simp; omega)))) hb10
  replace ya6 := a6.size
  replace a7 : Below w7.heap.size w7 w10 := stepH (by (repeat' (first | with_reducible exact Below.refl _ _ | with_reducible assumption | with_reducible refine Below.drew ?_ | with_reducible refine below_drewN ?_ _ | with_reducible refine Below.setCell ?_ ?_ _ | with_reducible refine Below.alloc ?_ ?_ _ | omega | (simp; done) | (simp; omega)))) hb10
  replace ya7 := a7.size
  replace a8 : Below w8.heap.size w8 w10 := stepH (by (repeat' (first | with_reducible exact Below.refl _ _ | with_reducible assumption | with_reducible refine Below.drew ?_ | with_reducible refine below_drewN ?_ _ | with_reducible refine Below.setCell ?_ ?_ _ | with_reducible refine Below.alloc ?_ ?_ _ | omega | (simp; done) | (simp; omega)))) hb10
  replace ya8 := a8.size
  have HR10 := Lib.hid hr10
  have HA10 := Lib.hid hA10
  have HC10 := Lib.hid hc10
  have HV10 := Lib.hid hv10
  clear hr10 hA10 hc10 hv10
  replace X := keepH hb10 X.out
  replace Y := keepH hb10 Y.out
  replace Z := keepH hb10 Z.out
  have z10 := hw10.size
  clear hb10 hw9 z9
  clear cX lX lX1 lX2 cY lY lY1 lY2 cZ lZ lZ1 lZ2
  have cX := cellH X
  obtain ⟨lX, lX1, lX2⟩ := ltH X
  have cY := cellH Y
  obtain ⟨lY, lY1, lY2⟩ := ltH Y
  have cZ := cellH Z
  obtain ⟨lZ, lZ1, lZ2⟩ := ltH Z
  have a10 : Below w10.heap.size w10 w10 := Below.refl _ _
  have ya10 := a10.size
  go_wp2_with fail
  refine (refOver6_any ra rb A7 A8 c7 c8 _ (moved6 HR7.out (by (repeat' (first | with_reducible exact Below.refl _ _ | with_reducible assumption | with_reducible refine Below.drew ?_ | with_reducible refine below_drewN ?_ _ | with_reducible refine Below.setCell ?_ ?_ _ | with_reducible refine Below.alloc ?_ ?_ _ | omega | (simp; done) | (simp; omega))))) (moved6 HR8.out (by (repeat' (first | with_reducible exact Below.refl _ _ | with_reducible assumption | with_reducible refine Below.drew ?_ | with_reducible refine below_drewN ?_ _ | with_reducible refine Below.setCell ?_ ?_ _ | with_reducible refine Below.alloc ?_ ?_ _ | omega | (simp; done) | (simp; omega))))) (by omega) (by omega) HA7.out HA8.out (fun p hp => (List.mem_append.1 hp).elim (HVRB.out p) (HVRA.out p))).mono ?_
  rintro e w11 ⟨⟨A11, c11, r11, rfl, hr11, _, hm11⟩, hb11⟩
  have hw11 : Below w.heap.size w w11 := stepH (by (repeat' (first | with_reducible exact Below.refl _ _ | with_reducible assumption | with_reducible refine Below.drew ?_ | with_reducible refine below_drewN ?_ _ | with_reducible refine Below.setCell ?_ ?_ _ | with_reducible refine Below.alloc ?_ ?_ _ | omega | (simp; done) | (simp; omega)))) hb11
  replace a3 : Below w3.heap.size w3 w11 := stepH (by (repeat' (first | with_reducible exact Below.refl _ _ | with_reducible assumption | with_reducible refine Below.drew ?_ | with_reducible refine below_drewN ?_ _ | with_reducible refine Below.setCell ?_ ?_ _ | with_reducible refine Below.alloc ?_ ?_ _ | omega | (simp; done) | (simp; omega)))) hb11
  replace ya3 := a3.size
  replace a5 : Below w5.heap.size w5 w11 := stepH (by (repeat' (first | with_reducible exact Below.refl _ _ | with_reducible assumption | with_reducible refine Below.drew ?_ | with_reducible refine below_drewN ?_ _ | with_reducible refine Below.setCell ?_ ?_ _ | with_reducible refine Below.alloc ?_ ?_ _ | omega | (simp; done) | (simp; omega)))) hb11
  replace ya5 := a5.size
  replace a6 : Below w6.heap.size w6 w11 := stepH (by (repeat' (first | with_reducible exact Below.refl _ _ | with_reducible assumption | with_reducible refine Below.drew ?_ | with_reducible refine below_drewN ?_ _ | with_reducible refine Below.setCell ?_ ?_ _ | with_reducible refine Below.alloc ?_ ?_ _ | omega | (simp; done) | (simp; omega)))) hb11
  replace ya6 := a6.size
  replace a7 : Below w7.heap.size w7 w11 := stepH (by (repeat' (first | with_reducible exact Below.refl _ _ | with_reducible assumption | with_reducible refine Below.drew ?_ | with_reducible refine below_drewN ?_ _ | with_reducible refine Below.setCell ?_ ?_ _ | with_reducible refine Below.alloc ?_ ?_ _ | omega | (simp; done) | (simp; omega)))) hb11
  replace ya7 := a7.size
  replace a8 : Below w8.heap.size w8 w11 := stepH (by (repeat' (first | with_reducible exact Below.refl _ _ | with_reducible assumption | with_reducible refine Below.drew ?_ | with_reducible refine below_drewN ?_ _ | with_reducible refine Below.setCell ?_ ?_ _ | with_reducible refine Below.alloc ?_ ?_ _ | omega | (simp; done) | (simp; omega)))) hb11
  replace ya8 := a8.size
  replace a10 : Below w10.heap.size w10 w11 := stepH (by (repeat' (first | with_reducible exact Below.refl _ _ | with_reducible assumption | with_reducible refine Below.drew ?_ | with_reducible refine below_drewN ?_ _ | with_reducible refine Below.setCell ?_ ?_ _ | with_reducible refine Below.alloc ?_ ?_ _ | omega | (simp; done) | (simp; omega)))) hb11
  replace ya10 := a10.size
  obtain rfl : r10 = r11 := HC10.out.ext hm11.canon (fun n => by rw [HV10.out n, hm11.val n, over_made HM3.out.canon.rise HM5.out.canon.rise])
  have hrl : r10.length ≤ 2000 := by have h := hm11.len; rw [List.length_append] at h; omega
  have HR11 := Lib.hid hr11
  clear hr11 hm11
  replace X := keepH hb11 X.out
  replace Y := keepH hb11 Y.out
  replace Z := keepH hb11 Z.out
  have z11 := hw11.size
  clear hb11 hw10 z10
  clear cX lX lX1 lX2 cY lY lY1 lY2 cZ lZ lZ1 lZ2
  have cX := cellH X
  obtain ⟨lX, lX1, lX2⟩ := ltH X
  have cY := cellH Y
  obtain ⟨lY, lY1, lY2⟩ := ltH Y
  have cZ := cellH Z
  obtain ⟨lZ, lZ1, lZ2⟩ := ltH Z
  have a11 : Below w11.heap.size w11 w11 := Below.refl _ _
  have ya11 := a11.size
  go_wp2_with fail
  refine (is6_yes r10 r10.length A10 A11 c10 c11 _ rfl (moved6 HR10.out (by (repeat' (first | with_reducible exact Below.refl _ _ | with_reducible assumption | with_reducible refine Below.drew ?_ | with_reducible refine below_drewN ?_ _ | with_reducible refine Below.setCell ?_ ?_ _ | with_reducible refine Below.alloc ?_ ?_ _ | omega | (simp; done) | (simp; omega))))) (moved6 HR11.out (by (repeat' (first | with_reducible exact Below.refl _ _ | with_reducible assumption | with_reducible refine Below.drew ?_ | with_reducible refine below_drewN ?_ _ | with_reducible refine Below.setCell ?_ ?_ _ | with_reducible refine Below.alloc ?_ ?_ _ | omega | (simp; done) | (simp; omega))))) (by omega) HA10.out).mono ?_
  rintro e w12 ⟨rfl, hb12⟩
  have hw12 : Below w.heap.size w w12 := stepH (by (repeat' (first | with_reducible exact Below.refl _ _ | with_reducible assumption | with_reducible refine Below.drew ?_ | with_reducible refine below_drewN ?_ _ | with_reducible refine Below.setCell ?_ ?_ _ | with_reducible refine Below.alloc ?_ ?_ _ | omega | (simp; done) | (simp; omega)))) hb12
  replace a3 : Below w3.heap.size w3 w12 := stepH (by (repeat' (first | with_reducible exact Below.refl _ _ | with_reducible assumption | with_reducible refine Below.drew ?_ | with_reducible refine below_drewN ?_ _ | with_reducible refine Below.setCell ?_ ?_ _ | with_reducible refine Below.alloc ?_ ?_ _ | omega | (simp; done) | (simp; omega)))) hb12
  replace ya3 := a3.size
  replace a5 : Below w5.heap.size w5 w12 := stepH (by (repeat' (first | with_reducible exact Below.refl _ _ | with_reducible assumption | with_reducible refine Below.drew ?_ | with_reducible refine below_drewN ?_ _ | with_reducible refine Below.setCell ?_ ?_ _ | with_reducible refine Below.alloc ?_ ?_ _ | omega | (simp; done) | (simp; omega)))) hb12
  replace ya5 := a5.size
  replace a6 : Below w6.heap.size w6 w12 := stepH (by (repeat' (first | with_reducible exact Below.refl _ _ | with_reducible assumption | with_reducible refine Below.drew ?_ | with_reducible refine below_drewN ?_ _ | with_reducible refine Below.setCell ?_ ?_ _ | with_reducible refine Below.alloc ?_ ?_ _ | omega | (simp; done) | (simp; omega)))) hb12
  replace ya6 := a6.size
  replace a7 : Below w7.heap.size w7 w12 := stepH (by (repeat' (first | with_reducible exact Below.refl _ _ | with_reducible assumption | with_reducible refine Below.drew ?_ | with_reducible refine below_drewN ?_ _ | with_reducible refine Below.setCell ?_ ?_ _ | with_reducible refine Below.alloc ?_ ?_ _ | omega | (simp; done) | (simp; omega)))) hb12
  replace ya7 := a7.size
  replace a8 : Below w8.heap.size w8 w12 := stepH (by (repeat' (first | with_reducible exact Below.refl _ _ | with_reducible assumption | with_reducible refine Below.drew ?_ | with_reducible refine below_drewN ?_ _ | with_reducible refine Below.setCell ?_ ?_ _ | with_reducible refine Below.alloc ?_ ?_ _ | omega | (simp; done) | (simp; omega)))) hb12
  replace ya8 := a8.size
  replace a10 : Below w10.heap.size w10 w12 := stepH (by (repeat' (first | with_reducible exact Below.refl _ _ | with_reducible assumption | with_reducible refine Below.drew ?_ | with_reducible refine below_drewN ?_ _ | with_reducible refine Below.setCell ?_ ?_ _ | with_reducible refine Below.alloc ?_ ?_ _ | omega | (simp; done) | (simp; omega)))) hb12
  replace ya10 := a10.size
  replace a11 : Below w11.heap.size w11 w12 := stepH (by (repeat' (first | with_reducible exact Below.refl _ _ | with_reducible assumption | with_reducible refine Below.drew ?_ | with_reducible refine below_drewN ?_ _ | with_reducible refine Below.setCell ?_ ?_ _ | with_reducible refine Below.alloc ?_ ?_ _ | omega | (simp; done) | (simp; omega)))) hb12
  replace ya11 := a11.size
  replace X := keepH hb12 X.out
  replace Y := keepH hb12 Y.out
  replace Z := keepH hb12 Z.out
  have z12 := hw12.size
  clear hb12 hw11 z11
  clear cX lX lX1 lX2 cY lY lY1 lY2 cZ lZ lZ1 lZ2
  have cX := cellH X
  obtain ⟨lX, lX1, lX2⟩ := ltH X
  have cY := cellH Y
  obtain ⟨lY, lY1, lY2⟩ := ltH Y
  have cZ := cellH Z
  obtain ⟨lZ, lZ1, lZ2⟩ := ltH Z
  go_wp2_with fail
  refine (cut_any ra rd A3 A6 c3 c6 _ (moved6 HR3.out (by (repeat' (first | with_reducible exact Below.refl _ _ | with_reducible assumption | with_reducible refine Below.drew ?_ | with_reducible refine below_drewN ?_ _ | with_reducible refine Below.setCell ?_ ?_ _ | with_reducible refine Below.alloc ?_ ?_ _ | omega | (simp; done) | (simp; omega))))) (moved6 HR6.out (by (repeat' (first | with_reducible exact Below.refl _ _ | with_reducible assumption | with_reducible refine Below.drew ?_ | with_reducible refine below_drewN ?_ _ | with_reducible refine Below.setCell ?_ ?_ _ | with_reducible refine Below.alloc ?_ ?_ _ | omega | (simp; done) | (simp; omega))))) (by omega) (by omega) HA6.out HM3.out.canon.rise HM3.out.canon.upTo HS6.out.canon.rise HS6.out.canon.upTo).mono ?_
  rintro e w13 ⟨⟨A13, c13, r13, rfl, hr13, hA13, _, hc13, hv13⟩, hb13⟩
  have hw13 : Below w.heap.size w w13 := stepH (by (repeat' (first | with_reducible exact Below.refl _ _ | with_reducible assumption | with_reducible refine Below.drew ?_ | with_reducible refine below_drewN ?_ _ | with_reducible refine Below.setCell ?_ ?_ _ | with_reducible refine Below.alloc ?_ ?_ _ | omega | (simp; done) | (simp; omega)))) hb13
  replace a3 : Below w3.heap.size w3 w13 := stepH (by (repeat' (first | with_reducible exact Below.refl _ _ | with_reducible assumption | with_reducible refine Below.drew ?_ | with_reducible refine below_drewN ?_ _ | with_reducible refine Below.setCell ?_ ?_ _ | with_reducible refine Below.alloc ?_ ?_ _ | omega | (simp; done) | (simp; omega)))) hb13
  replace ya3 := a3.size
  replace a5 : Below w5.heap.size w5 w13 := stepH (by (repeat' (first | with_reducible exact Below.refl _ _ | with_reducible assumption | with_reducible refine Below.drew ?_ | with_reducible refine below_drewN ?_ _ | with_reducible refine Below.setCell ?_ ?_ _ | with_reducible refine Below.alloc ?_ ?_ _ | omega | (simp; done) | (simp; omega)))) hb13
  replace ya5 := a5.size
  replace a6 : Below w6.heap.size w6 w13 := stepH (by (repeat' (first | with_reducible exact Below.refl _ _ | with_reducible assumption | with_reducible refine Below.drew ?_ | with_reducible refine below_drewN ?_ _ | with_reducible refine Below.setCell ?_ ?_ _ | with_reducible refine Below.alloc ?_ ?_ _ | omega | (simp; done) | (simp; omega)))) hb13
  replace ya6 := a6.size
  replace a7 : Below w7.heap.size w7 w13 := stepH (by (repeat' (first | with_reducible exact Below.refl _ _ | with_reducible assumption | with_reducible refine Below.drew ?_ | with_reducible refine below_drewN ?_ _ | with_reducible refine Below.setCell ?_ ?_ _ | with_reducible refine Below.alloc ?_ ?_ _ | omega | (simp; done) | (simp; omega)))) hb13
  replace ya7 := a7.size
  replace a8 : Below w8.heap.size w8 w13 := stepH (by (repeat' (first | with_reducible exact Below.refl _ _ | with_reducible assumption | with_reducible refine Below.drew ?_ | with_reducible refine below_drewN ?_ _ | with_reducible refine Below.setCell ?_ ?_ _ | with_reducible refine Below.alloc ?_ ?_ _ | omega | (simp; done) | (simp; omega)))) hb13
  replace ya8 := a8.size
  replace a10 : Below w10.heap.size w10 w13 := stepH (by (repeat' (first | with_reducible exact Below.refl _ _ | with_reducible assumption | with_reducible refine Below.drew ?_ | with_reducible refine below_drewN ?_ _ | with_reducible refine Below.setCell ?_ ?_ _ | with_reducible refine Below.alloc ?_ ?_ _ | omega | (simp; done) | (simp; omega)))) hb13
  replace ya10 := a10.size
  replace a11 : Below w11.heap.size w11 w13 := stepH (by (repeat' (first | with_reducible exact Below.refl _ _ | with_reducible assumption | with_reducible refine Below.drew ?_ | with_reducible refine below_drewN ?_ _ | with_reducible refine Below.setCell ?_ ?_ _ | with_reducible refine Below.alloc ?_ ?_ _ | omega | (simp; done) | (simp; omega)))) hb13
  replace ya11 := a11.size
  have HR13 := Lib.hid hr13
  have HA13 := Lib.hid hA13
  have HC13 := Lib.hid hc13
  have HV13 := Lib.hid hv13
  have hrl13 : r13.length ≤ 600 := by have h := cut_len hc13 HM3.out.canon.rise HS6.out.canon.rise hv13; omega
  clear hr13 hA13 hc13 hv13
  replace X := keepH hb13 X.out
  replace Y := keepH hb13 Y.out
  replace Z := keepH hb13 Z.out
  have z13 := hw13.size
  clear hb13 hw12 z12
  clear cX lX lX1 lX2 cY lY lY1 lY2 cZ lZ lZ1 lZ2
  have cX := cellH X
  obtain ⟨lX, lX1, lX2⟩ := ltH X
  have cY := cellH Y
  obtain ⟨lY, lY1, lY2⟩ := ltH Y
  have cZ := cellH Z
  obtain ⟨lZ, lZ1, lZ2⟩ := ltH Z
  have a13 : Below w13.heap.size w13 w13 := Below.refl _ _
  have ya13 := a13.size
  go_wp2_with fail
  refine (normS_any s D e9 _ (moved6 HSs.out (by (repeat' (first | with_reducible exact Below.refl _ _ | with_reducible assumption | with_reducible refine Below.drew ?_ | with_reducible refine below_drewN ?_ _ | with_reducible refine Below.setCell ?_ ?_ _ | with_reducible refine Below.alloc ?_ ?_ _ | omega | (simp; done) | (simp; omega))))) (by omega) HVS.out).mono ?_
  rintro e w14 ⟨⟨A14, c14, rn, rfl, hr14, hA14, _, hs14⟩, hb14⟩
  have hw14 : Below w.heap.size w w14 := stepH (by (repeat' (first | with_reducible exact Below.refl _ _ | with_reducible assumption | with_reducible refine Below.drew ?_ | with_reducible refine below_drewN ?_ _ | with_reducible refine Below.setCell ?_ ?_ _ | with_reducible refine Below.alloc ?_ ?_ _ | omega | (simp; done) | (simp; omega)))) hb14
  replace a3 : Below w3.heap.size w3 w14 := stepH (by (repeat' (first | with_reducible exact Below.refl _ _ | with_reducible assumption | with_reducible refine Below.drew ?_ | with_reducible refine below_drewN ?_ _ | with_reducible refine Below.setCell ?_ ?_ _ | with_reducible refine Below.alloc ?_ ?_ _ | omega | (simp; done) | (simp; omega)))) hb14
  replace ya3 := a3.size
  replace a5 : Below w5.heap.size w5 w14 := stepH (by (repeat' (first | with_reducible exact Below.refl _ _ | with_reducible assumption | with_reducible refine Below.drew ?_ | with_reducible refine below_drewN ?_ _ | with_reducible refine Below.setCell ?_ ?_ _ | with_reducible refine Below.alloc ?_ ?_ _ | omega | (simp; done) | (simp; omega)))) hb14
  replace ya5 := a5.size
  replace a6 : Below w6.heap.size w6 w14 := stepH (by (repeat' (first | with_reducible exact Below.refl _ _ | with_reducible assumption | with_reducible refine Below.drew ?_ | with_reducible refine below_drewN ?_ _ | with_reducible refine Below.setCell ?_ ?_ _ | with_reducible refine Below.alloc ?_ ?_ _ | omega | (simp; done) | (simp; omega)))) hb14
  replace ya6 := a6.size
  replace a7 : Below w7.heap.size w7 w14 := stepH (by (repeat' (first | with_reducible exact Below.refl _ _ | with_reducible assumption | with_reducible refine Below.drew ?_ | with_reducible refine below_drewN ?_ _ | with_reducible refine Below.setCell ?_ ?_ _ | with_reducible refine Below.alloc ?_ ?_ _ | omega | (simp; done) | (simp; omega)))) hb14
  replace ya7 := a7.size
  replace a8 : Below w8.heap.size w8 w14 := stepH (by (repeat' (first | with_reducible exact Below.refl _ _ | with_reducible assumption | with_reducible refine Below.drew ?_ | with_reducible refine below_drewN ?_ _ | with_reducible refine Below.setCell ?_ ?_ _ | with_reducible refine Below.alloc ?_ ?_ _ | omega | (simp; done) | (simp; omega)))) hb14
  replace ya8 := a8.size
  replace a10 : Below w10.heap.size w10 w14 := stepH (by (repeat' (first | with_reducible exact Below.refl _ _ | with_reducible assumption | with_reducible refine Below.drew ?_ | with_reducible refine below_drewN ?_ _ | with_reducible refine Below.setCell ?_ ?_ _ | with_reducible refine Below.alloc ?_ ?_ _ | omega | (simp; done) | (simp; omega)))) hb14
  replace ya10 := a10.size
  replace a11 : Below w11.heap.size w11 w14 := stepH (by (repeat' (first | with_reducible exact Below.refl _ _ | with_reducible assumption | with_reducible refine Below.drew ?_ | with_reducible refine below_drewN ?_ _ | with_reducible refine Below.setCell ?_ ?_ _ | with_reducible refine Below.alloc ?_ ?_ _ | omega | (simp; done) | (simp; omega)))) hb14
  replace ya11 := a11.size
  replace a13 : Below w13.heap.size w13 w14 := stepH (by (repeat' (first | with_reducible exact Below.refl _ _ | with_reducible assumption | with_reducible refine Below.drew ?_ | with_reducible refine below_drewN ?_ _ | with_reducible refine Below.setCell ?_ ?_ _ | with_reducible refine Below.alloc ?_ ?_ _ | omega | (simp; done) | (simp; omega)))) hb14
  replace ya13 := a13.size
  obtain rfl : rd = rn := HS6.out.uniq hs14
  have HR14 := Lib.hid hr14
  have HA14 := Lib.hid hA14
  clear hr14 hA14 hs14
  replace X := keepH hb14 X.out
  replace Y := keepH hb14 Y.out
  replace Z := keepH hb14 Z.out
  have z14 := hw14.size
  clear hb14 hw13 z13
  clear cX lX lX1 lX2 cY lY lY1 lY2 cZ lZ lZ1 lZ2
  have cX := cellH X
  obtain ⟨lX, lX1, lX2⟩ := ltH X
  have cY := cellH Y
  obtain ⟨lY, lY1, lY2⟩ := ltH Y
  have cZ := cellH Z
  obtain ⟨lZ, lZ1, lZ2⟩ := ltH Z
  have a14 : Below w14.heap.size w14 w14 := Below.refl _ _
  have ya14 := a14.size
  go_wp2_with fail
  refine (refCut6_any ra rd A7 A14 c7 c14 _ (moved6 HR7.out (by (repeat' (first | with_reducible exact Below.refl _ _ | with_reducible assumption | with_reducible refine Below.drew ?_ | with_reducible refine below_drewN ?_ _ | with_reducible refine Below.setCell ?_ ?_ _ | with_reducible refine Below.alloc ?_ ?_ _ | omega | (simp; done) | (simp; omega))))) (moved6 HR14.out (by (repeat' (first | with_reducible exact Below.refl _ _ | with_reducible assumption | with_reducible refine Below.drew ?_ | with_reducible refine below_drewN ?_ _ | with_reducible refine Below.setCell ?_ ?_ _ | with_reducible refine Below.alloc ?_ ?_ _ | omega | (simp; done) | (simp; omega))))) (by omega) (by omega) HA14.out HM3.out.canon HS6.out.canon).mono ?_
  rintro e w15 ⟨⟨A15, c15, r15, rfl, hr15, hc15, hv15⟩, hb15⟩
  have hw15 : Below w.heap.size w w15 := stepH (by (repeat' (first | with_reducible exact Below.refl _ _ | with_reducible assumption | with_reducible refine Below.drew ?_ | with_reducible refine below_drewN ?_ _ | with_reducible refine Below.setCell ?_ ?_ _ | with_reducible refine Below.alloc ?_ ?_ _ | omega | (simp; done) | (simp; omega)))) hb15
  replace a3 : Below w3.heap.size w3 w15 := stepH (by (repeat' (first | with_reducible exact Below.refl _ _ | with_reducible assumption | with_reducible refine Below.drew ?_ | with_reducible refine below_drewN ?_ _ | with_reducible refine Below.setCell ?_ ?_ _ | with_reducible refine Below.alloc ?_ ?_ _ | omega | (simp; done) | (simp; omega)))) hb15
  replace ya3 := a3.size
  replace a5 : Below w5.heap.size w5 w15 := stepH (by (repeat' (first | with_reducible exact Below.refl _ _ | with_reducible assumption | with_reducible refine Below.drew ?_ | with_reducible refine below_drewN ?_ _ | with_reducible refine Below.setCell ?_ ?_ _ | with_reducible refine Below.alloc ?_ ?_ _ | omega | (simp; done) | (simp; omega)))) hb15
  replace ya5 := a5.size
  replace a6 : Below w6.heap.size w6 w15 := stepH (by (repeat' (first | with_reducible exact Below.refl _ _ | with_reducible assumption | with_reducible refine Below.drew ?_ | with_reducible refine below_drewN ?_ _ | with_reducible refine Below.setCell ?_ ?_ _ | with_reducible refine Below.alloc ?_ ?_ _ | omega | (simp; done) | (simp; omega)))) hb15
  replace ya6 := a6.size
  replace a7 : Below w7.heap.size w7 w15 := stepH (by (repeat' (first | with_reducible exact Below.refl _ _ | with_reducible assumption | with_reducible refine Below.drew ?_ | with_reducible refine below_drewN ?_ _ | with_reducible refine Below.setCell ?_ ?_ _ | with_reducible refine Below.alloc ?_ ?_ _ | omega | (simp; done) | (simp; omega)))) hb15
  replace ya7 := a7.size
  replace a8 : Below w8.heap.size w8 w15 := stepH (by (repeat' (first | with_reducible exact Below.refl _ _ | with_reducible assumption | with_reducible refine Below.drew ?_ | with_reducible refine below_drewN ?_ _ | with_reducible refine Below.setCell ?_ ?_ _ | with_reducible refine Below.alloc ?_ ?_ _ | omega | (simp; done) | (simp; omega)))) hb15
  replace ya8 := a8.size
  replace a10 : Below w10.heap.size w10 w15 := stepH (by (repeat' (first | with_reducible exact Below.refl _ _ | with_reducible assumption | with_reducible refine Below.drew ?_ | with_reducible refine below_drewN ?_ _ | with_reducible refine Below.setCell ?_ ?_ _ | with_reducible refine Below.alloc ?_ ?_ _ | omega | (simp; done) | (simp; omega)))) hb15
  replace ya10 := a10.size
  replace a11 : Below w11.heap.size w11 w15 := stepH (by (repeat' (first | with_reducible exact Below.refl _ _ | with_reducible assumption | with_reducible refine Below.drew ?_ | with_reducible refine below_drewN ?_ _ | with_reducible refine Below.setCell ?_ ?_ _ | with_reducible refine Below.alloc ?_ ?_ _ | omega | (simp; done) | (simp; omega)))) hb15
  replace ya11 := a11.size
  replace a13 : Below w13.heap.size w13 w15 := stepH (by (repeat' (first | with_reducible exact Below.refl _ _ | with_reducible assumption | with_reducible refine Below.drew ?_ | with_reducible refine below_drewN ?_ _ | with_reducible refine Below.setCell ?_ ?_ _ | with_reducible refine Below.alloc ?_ ?_ _ | omega | (simp; done) | (simp; omega)))) hb15
  replace ya13 := a13.size
  replace a14 : Below w14.heap.size w14 w15 := stepH (by (repeat' (first | with_reducible exact Below.refl _ _ | with_reducible assumption | with_reducible refine Below.drew ?_ | with_reducible refine below_drewN ?_ _ | with_reducible refine Below.setCell ?_ ?_ _ | with_reducible refine Below.alloc ?_ ?_ _ | omega | (simp; done) | (simp; omega)))) hb15
  replace ya14 := a14.size
  obtain rfl : r13 = r15 := HC13.out.ext hc15 (fun n => by rw [HV13.out n, hv15 n])
  have HR15 := Lib.hid hr15
  clear hr15 hc15 hv15
  replace X := keepH hb15 X.out
  replace Y := keepH hb15 Y.out
  replace Z := keepH hb15 Z.out
  have z15 := hw15.size
  clear hb15 hw14 z14
  clear cX lX lX1 lX2 cY lY lY1 lY2 cZ lZ lZ1 lZ2
  have cX := cellH X
  obtain ⟨lX, lX1, lX2⟩ := ltH X
  have cY := cellH Y
  obtain ⟨lY, lY1, lY2⟩ := ltH Y
  have cZ := cellH Z
  obtain ⟨lZ, lZ1, lZ2⟩ := ltH Z
  have a15 : Below w15.heap.size w15 w15 := Below.refl _ _
  have ya15 := a15.size
  go_wp2_with fail
  refine (is6_yes r13 r13.length A13 A15 c13 c15 _ rfl (moved6 HR13.out (by (repeat' (first | with_reducible exact Below.refl _ _ | with_reducible assumption | with_reducible refine Below.drew ?_ | with_reducible refine below_drewN ?_ _ | with_reducible refine Below.setCell ?_ ?_ _ | with_reducible refine Below.alloc ?_ ?_ _ | omega | (simp; done) | (simp; omega))))) (moved6 HR15.out (by (repeat' (first | with_reducible exact Below.refl _ _ | with_reducible assumption | with_reducible refine Below.drew ?_ | with_reducible refine below_drewN ?_ _ | with_reducible refine Below.setCell ?_ ?_ _ | with_reducible refine Below.alloc ?_ ?_ _ | omega | (simp; done) | (simp; omega))))) (by omega) HA13.out).mono ?_
  rintro e w16 ⟨rfl, hb16⟩
  have hw16 : Below w.heap.size w w16 := stepH (by (repeat' (first | with_reducible exact Below.refl _ _ | with_reducible assumption | with_reducible refine Below.drew ?_ | with_reducible refine below_drewN ?_ _ | with_reducible refine Below.setCell ?_ ?_ _ | with_reducible refine Below.alloc ?_ ?_ _ | omega | (simp; done) | (simp; omega)))) hb16
  replace a3 : Below w3.heap.size w3 w16 := stepH (by (repeat' (first | with_reducible exact Below.refl _ _ | with_reducible assumption | with_reducible refine Below.drew ?_ | with_reducible refine below_drewN ?_ _ | with_reducible refine Below.setCell ?_ ?_ _ | with_reducible refine Below.alloc ?_ ?_ _ | omega | (simp; done) | (simp; omega)))) hb16
  replace ya3 := a3.size
  replace a5 : Below w5.heap.size w5 w16 := stepH (by (repeat' (first | with_reducible exact Below.refl _ _ | with_reducible assumption | with_reducible refine Below.drew ?_ | with_reducible refine below_drewN ?_ _ | with_reducible refine Below.setCell ?_ ?_ _ | with_reducible refine Below.alloc ?_ ?_ _ | omega | (simp; done) | (simp; omega)))) hb16
  replace ya5 := a5.size
  replace a6 : Below w6.heap.size w6 w16 := stepH (by (repeat' (first | with_reducible exact Below.refl _ _ | with_reducible assumption | with_reducible refine Below.drew ?_ | with_reducible refine below_drewN ?_ _ | with_reducible refine Below.setCell ?_ ?_ _ | with_reducible refine Below.alloc ?_ ?_ _ | omega | (simp; done) | (simp; omega)))) hb16
  replace ya6 := a6.size
  replace a7 : Below w7.heap.size w7 w16 := stepH (by (repeat' (first | with_reducible exact Below.refl _ _ | with_reducible assumption | with_reducible refine Below.drew ?_ | with_reducible refine below_drewN ?_ _ | with_reducible refine Below.setCell ?_ ?_ _ | with_reducible refine Below.alloc ?_ ?_ _ | omega | (simp; done) | (simp; omega)))) hb16
  replace ya7 := a7.size
  replace a8 : Below w8.heap.size w8 w16 := stepH (by (repeat' (first | with_reducible exact Below.refl _ _ | with_reducible assumption | with_reducible refine Below.drew ?_ | with_reducible refine below_drewN ?_ _ | with_reducible refine Below.setCell ?_ ?_ _ | with_reducible refine Below.alloc ?_ ?_ _ | omega | (simp; done) | (simp; omega)))) hb16
  replace ya8 := a8.size
  replace a10 : Below w10.heap.size w10 w16 := stepH (by (repeat' (first | with_reducible exact Below.refl _ _ | with_reducible assumption | with_reducible refine Below.drew ?_ | with_reducible refine below_drewN ?_ _ | with_reducible refine Below.setCell ?_ ?_ _ | with_reducible refine Below.alloc ?_ ?_ _ | omega | (simp; done) | (simp; omega)))) hb16
  replace ya10 := a10.size
  replace a11 : Below w11.heap.size w11 w16 := stepH (by (repeat' (first | with_reducible exact Below.refl _ _ | with_reducible assumption | with_reducible refine Below.drew ?_ | with_reducible refine below_drewN ?_ _ | with_reducible refine Below.setCell ?_ ?_ _ | with_reducible refine Below.alloc ?_ ?_ _ | omega | (simp; done) | (simp; omega)))) hb16
  replace ya11 := a11.size
  replace a13 : Below w13.heap.size w13 w16 := stepH (by (repeat' (first | with_reducible exact Below.refl _ _ | with_reducible assumption | with_reducible refine Below.drew ?_ | with_reducible refine below_drewN ?_ _ | with_reducible refine Below.setCell ?_ ?_ _ | with_reducible refine Below.alloc ?_ ?_ _ | omega | (simp; done) | (simp; omega)))) hb16
  replace ya13 := a13.size
  replace a14 : Below w14.heap.size w14 w16 := stepH (by (repeat' (first | with_reducible exact Below.refl _ _ | with_reducible assumption | with_reducible refine Below.drew ?_ | with_reducible refine below_drewN ?_ _ | with_reducible refine Below.setCell ?_ ?_ _ | with_reducible refine Below.alloc ?_ ?_ _ | omega | (simp; done) | (simp; omega)))) hb16
  replace ya14 := a14.size
  replace a15 : Below w15.heap.size w15 w16 := stepH (by (repeat' (first | with_reducible exact Below.refl _ _ | with_reducible assumption | with_reducible refine Below.drew ?_ | with_reducible refine below_drewN ?_ _ | with_reducible refine Below.setCell ?_ ?_ _ | with_reducible refine Below.alloc ?_ ?_ _ | omega | (simp; done) | (simp; omega)))) hb16
  replace ya15 := a15.size
  replace X := keepH hb16 X.out
  replace Y := keepH hb16 Y.out
  replace Z := keepH hb16 Z.out
  have z16 := hw16.size
  clear hb16 hw15 z15
  clear cX lX lX1 lX2 cY lY lY1 lY2 cZ lZ lZ1 lZ2
  have cX := cellH X
  obtain ⟨lX, lX1, lX2⟩ := ltH X
  have cY := cellH Y
  obtain ⟨lY, lY1, lY2⟩ := ltH Y
  have cZ := cellH Z
  obtain ⟨lZ, lZ1, lZ2⟩ := ltH Z
  go_wp2_with fail
  refine (setL_any ra A3 c3 _ (moved6 HR3.out (by (repeat' (first | with_reducible exact Below.refl _ _ | with_reducible assumption | with_reducible refine Below.drew ?_ | with_reducible refine below_drewN ?_ _ | with_reducible refine Below.setCell ?_ ?_ _ | with_reducible refine Below.alloc ?_ ?_ _ | omega | (simp; done) | (simp; omega))))) (by omega) HM3.out.canon.rise HM3.out.canon.upTo).mono ?_
  rintro e w17 ⟨⟨A17, c17, r17, rfl, hr17, hA17, hs17⟩, hb17⟩
  have hw17 : Below w.heap.size w w17 := stepH (by (repeat' (first | with_reducible exact Below.refl _ _ | with_reducible assumption | with_reducible refine Below.drew ?_ | with_reducible refine below_drewN ?_ _ | with_reducible refine Below.setCell ?_ ?_ _ | with_reducible refine Below.alloc ?_ ?_ _ | omega | (simp; done) | (simp; omega)))) hb17
  replace a3 : Below w3.heap.size w3 w17 := stepH (by (repeat' (first | with_reducible exact Below.refl _ _ | with_reducible assumption | with_reducible refine Below.drew ?_ | with_reducible refine below_drewN ?_ _ | with_reducible refine Below.setCell ?_ ?_ _ | with_reducible refine Below.alloc ?_ ?_ _ | omega | (simp; done) | (simp; omega)))) hb17
  replace ya3 := a3.size
  replace a5 : Below w5.heap.size w5 w17 := stepH (by (repeat' (first | with_reducible exact Below.refl _ _ | with_reducible assumption | with_reducible refine Below.drew ?_ | with_reducible refine below_drewN ?_ _ | with_reducible refine Below.setCell ?_ ?_ _ | with_reducible refine Below.alloc ?_ ?_ _ | omega | (simp; done) | (simp; omega)))) hb17
  replace ya5 := a5.size
  replace a6 : Below w6.heap.size w6 w17 := stepH (by (repeat' (first | with_reducible exact Below.refl _ _ | with_reducible assumption | with_reducible refine Below.drew ?_ | with_reducible refine below_drewN ?_ _ | with_reducible refine Below.setCell ?_ ?_ _ | with_reducible refine Below.alloc ?_ ?_ _ | omega | (simp; done) | (simp; omega)))) hb17
  replace ya6 := a6.size
  replace a7 : Below w7.heap.size w7 w17 := stepH (by (repeat' (first | with_reducible exact Below.refl _ _ | with_reducible assumption | with_reducible refine Below.drew ?_ | with_reducible refine below_drewN ?_ _ | with_reducible refine Below.setCell ?_ ?_ _ | with_reducible refine Below.alloc ?_ ?_ _ | omega | (simp; done) | (simp; omega)))) hb17
  replace ya7 := a7.size
  replace a8 : Below w8.heap.size w8 w17 := stepH (by (repeat' (first | with_reducible exact Below.refl _ _ | with_reducible assumption | with_reducible refine Below.drew ?_ | with_reducible refine below_drewN ?_ _ | with_reducible refine Below.setCell ?_ ?_ _ | with_reducible refine Below.alloc ?_ ?_ _ | omega | (simp; done) | (simp; omega)))) hb17
  replace ya8 := a8.size
  replace a10 : Below w10.heap.size w10 w17 := stepH (by (repeat' (first | with_reducible exact Below.refl _ _ | with_reducible assumption | with_reducible refine Below.drew ?_ | with_reducible refine below_drewN ?_ _ | with_reducible refine Below.setCell ?_ ?_ _ | with_reducible refine Below.alloc ?_ ?_ _ | omega | (simp; done) | (simp; omega)))) hb17
  replace ya10 := a10.size
  replace a11 : Below w11.heap.size w11 w17 := stepH (by (repeat' (first | with_reducible exact Below.refl _ _ | with_reducible assumption | with_reducible refine Below.drew ?_ | with_reducible refine below_drewN ?_ _ | with_reducible refine Below.setCell ?_ ?_ _ | with_reducible refine Below.alloc ?_ ?_ _ | omega | (simp; done) | (simp; omega)))) hb17
  replace ya11 := a11.size
  replace a13 : Below w13.heap.size w13 w17 := stepH (by (repeat' (first | with_reducible exact Below.refl _ _ | with_reducible assumption | with_reducible refine Below.drew ?_ | with_reducible refine below_drewN ?_ _ | with_reducible refine Below.setCell ?_ ?_ _ | with_reducible refine Below.alloc ?_ ?_ _ | omega | (simp; done) | (simp; omega)))) hb17
  replace ya13 := a13.size
  replace a14 : Below w14.heap.size w14 w17 := stepH (by (repeat' (first | with_reducible exact Below.refl _ _ | with_reducible assumption | with_reducible refine Below.drew ?_ | with_reducible refine below_drewN ?_ _ | with_reducible refine Below.setCell ?_ ?_ _ | with_reducible refine Below.alloc ?_ ?_ _ | omega | (simp; done) | (simp; omega)))) hb17
  replace ya14 := a14.size
  replace a15 : Below w15.heap.size w15 w17 := stepH (by (repeat' (first | with_reducible exact Below.refl _ _ | with_reducible assumption | with_reducible refine Below.drew ?_ | with_reducible refine below_drewN ?_ _ | with_reducible refine Below.setCell ?_ ?_ _ | with_reducible refine Below.alloc ?_ ?_ _ | omega | (simp; done) | (simp; omega)))) hb17
  replace ya15 := a15.size
  have HR17 := Lib.hid hr17
  have HA17 := Lib.hid hA17
  have HS17 := Lib.hid hs17
  have hrl17 : r17.length ≤ 400 := by have h := hs17.len; rw [selT_len] at h; omega
  clear hr17 hA17 hs17
  replace X := keepH hb17 X.out
  replace Y := keepH hb17 Y.out
  replace Z := keepH hb17 Z.out
  have z17 := hw17.size
  clear hb17 hw16 z16
  clear cX lX lX1 lX2 cY lY lY1 lY2 cZ lZ lZ1 lZ2
  have cX := cellH X
  obtain ⟨lX, lX1, lX2⟩ := ltH X
  have cY := cellH Y
  obtain ⟨lY, lY1, lY2⟩ := ltH Y
  have cZ := cellH Z
  obtain ⟨lZ, lZ1, lZ2⟩ := ltH Z
  have a17 : Below w17.heap.size w17 w17 := Below.refl _ _
  have ya17 := a17.size
  go_wp2_with fail
  refine (spansD_any r17 A17 c17 _ (moved6 HR17.out (by (repeat' (first | with_reducible exact Below.refl _ _ | with_reducible assumption | with_reducible refine Below.drew ?_ | with_reducible refine below_drewN ?_ _ | with_reducible refine Below.setCell ?_ ?_ _ | with_reducible refine Below.alloc ?_ ?_ _ | omega | (simp; done) | (simp; omega))))) (by omega) HA17.out).mono ?_
  rintro e w18 ⟨v18, rfl, hown18, hb18⟩
  have hw18 : Below w.heap.size w w18 := stepH (by (repeat' (first | with_reducible exact Below.refl _ _ | with_reducible assumption | with_reducible refine Below.drew ?_ | with_reducible refine below_drewN ?_ _ | with_reducible refine Below.setCell ?_ ?_ _ | with_reducible refine Below.alloc ?_ ?_ _ | omega | (simp; done) | (simp; omega)))) hb18
  replace a3 : Below w3.heap.size w3 w18 := stepH (by (repeat' (first | with_reducible exact Below.refl _ _ | with_reducible assumption | with_reducible refine Below.drew ?_ | with_reducible refine below_drewN ?_ _ | with_reducible refine Below.setCell ?_ ?_ _ | with_reducible refine Below.alloc ?_ ?_ _ | omega | (simp; done) | (simp; omega)))) hb18
  replace ya3 := a3.size
  replace a5 : Below w5.heap.size w5 w18 := stepH (by (repeat' (first | with_reducible exact Below.refl _ _ | with_reducible assumption | with_reducible refine Below.drew ?_ | with_reducible refine below_drewN ?_ _ | with_reducible refine Below.setCell ?_ ?_ _ | with_reducible refine Below.alloc ?_ ?_ _ | omega | (simp; done) | (simp; omega)))) hb18
  replace ya5 := a5.size
  replace a6 : Below w6.heap.size w6 w18 := stepH (by (repeat' (first | with_reducible exact Below.refl _ _ | with_reducible assumption | with_reducible refine Below.drew ?_ | with_reducible refine below_drewN ?_ _ | with_reducible refine Below.setCell ?_ ?_ _ | with_reducible refine Below.alloc ?_ ?_ _ | omega | (simp; done) | (simp; omega)))) hb18
  replace ya6 := a6.size
  replace a7 : Below w7.heap.size w7 w18 := stepH (by (repeat' (first | with_reducible exact Below.refl _ _ | with_reducible assumption | with_reducible refine Below.drew ?_ | with_reducible refine below_drewN ?_ _ | with_reducible refine Below.setCell ?_ ?_ _ | with_reducible refine Below.alloc ?_ ?_ _ | omega | (simp; done) | (simp; omega)))) hb18
  replace ya7 := a7.size
  replace a8 : Below w8.heap.size w8 w18 := stepH (by (repeat' (first | with_reducible exact Below.refl _ _ | with_reducible assumption | with_reducible refine Below.drew ?_ | with_reducible refine below_drewN ?_ _ | with_reducible refine Below.setCell ?_ ?_ _ | with_reducible refine Below.alloc ?_ ?_ _ | omega | (simp; done) | (simp; omega)))) hb18
  replace ya8 := a8.size
  replace a10 : Below w10.heap.size w10 w18 := stepH (by (repeat' (first | with_reducible exact Below.refl _ _ | with_reducible assumption | with_reducible refine Below.drew ?_ | with_reducible refine below_drewN ?_ _ | with_reducible refine Below.setCell ?_ ?_ _ | with_reducible refine Below.alloc ?_ ?_ _ | omega | (simp; done) | (simp; omega)))) hb18
  replace ya10 := a10.size
  replace a11 : Below w11.heap.size w11 w18 := stepH (by (repeat' (first | with_reducible exact Below.refl _ _ | with_reducible assumption | with_reducible refine Below.drew ?_ | with_reducible refine below_drewN ?_ _ | with_reducible refine Below.setCell ?_ ?_ _ | with_reducible refine Below.alloc ?_ ?_ _ | omega | (simp; done) | (simp; omega)))) hb18
  replace ya11 := a11.size
  replace a13 : Below w13.heap.size w13 w18 := stepH (by (repeat' (first | with_reducible exact Below.refl _ _ | with_reducible assumption | with_reducible refine Below.drew ?_ | with_reducible refine below_drewN ?_ _ | with_reducible refine Below.setCell ?_ ?_ _ | with_reducible refine Below.alloc ?_ ?_ _ | omega | (simp; done) | (simp; omega)))) hb18
  replace ya13 := a13.size
  replace a14 : Below w14.heap.size w14 w18 := stepH (by (repeat' (first | with_reducible exact Below.refl _ _ | with_reducible assumption | with_reducible refine Below.drew ?_ | with_reducible refine below_drewN ?_ _ | with_reducible refine Below.setCell ?_ ?_ _ | with_reducible refine Below.alloc ?_ ?_ _ | omega | (simp; done) | (simp; omega)))) hb18
  replace ya14 := a14.size
  replace a15 : Below w15.heap.size w15 w18 := stepH (by (repeat' (first | with_reducible exact Below.refl _ _ | with_reducible assumption | with_reducible refine Below.drew ?_ | with_reducible refine below_drewN ?_ _ | with_reducible refine Below.setCell ?_ ?_ _ | with_reducible refine Below.alloc ?_ ?_ _ | omega | (simp; done) | (simp; omega)))) hb18
  replace ya15 := a15.size
  replace a17 : Below w17.heap.size w17 w18 := stepH (by (repeat' (first | with_reducible exact Below.refl _ _ | with_reducible assumption | with_reducible refine Below.drew ?_ | with_reducible refine below_drewN ?_ _ | with_reducible refine Below.setCell ?_ ?_ _ | with_reducible refine Below.alloc ?_ ?_ _ | omega | (simp; done) | (simp; omega)))) hb18
  replace ya17 := a17.size
  obtain ⟨A18, c18, rfl, hr18, _, _⟩ := own_line (fun x _ => encU_len x) hown18
  have HR18 := Lib.hid hr18
  clear hr18 hown18
  replace X := keepH hb18 X.out
  replace Y := keepH hb18 Y.out
  replace Z := keepH hb18 Z.out
  have z18 := hw18.size
  clear hb18 hw17 z17
  clear cX lX lX1 lX2 cY lY lY1 lY2 cZ lZ lZ1 lZ2
  have cX := cellH X
  obtain ⟨lX, lX1, lX2⟩ := ltH X
  have cY := cellH Y
  obtain ⟨lY, lY1, lY2⟩ := ltH Y
  have cZ := cellH Z
  obtain ⟨lZ, lZ1, lZ2⟩ := ltH Z
  have a18 : Below w18.heap.size w18 w18 := Below.refl _ _
  have ya18 := a18.size
  go_wp2_with fail
  refine (refDays6_any ra A7 c7 _ (moved6 HR7.out (by (repeat' (first | with_reducible exact Below.refl _ _ | with_reducible assumption | with_reducible refine Below.drew ?_ | with_reducible refine below_drewN ?_ _ | with_reducible refine Below.setCell ?_ ?_ _ | with_reducible refine Below.alloc ?_ ?_ _ | omega | (simp; done) | (simp; omega))))) (by omega) HVRA.out).mono ?_
  rintro e w19 ⟨⟨A19, c19, r19, rfl, hr19, _, hs19⟩, hb19⟩
  have hw19 : Below w.heap.size w w19 := stepH (by (repeat' (first | with_reducible exact Below.refl _ _ | with_reducible assumption | with_reducible refine Below.drew ?_ | with_reducible refine below_drewN ?_ _ | with_reducible refine Below.setCell ?_ ?_ _ | with_reducible refine Below.alloc ?_ ?_ _ | omega | (simp; done) | (simp; omega)))) hb19
  replace a3 : Below w3.heap.size w3 w19 := stepH (by (repeat' (first | with_reducible exact Below.refl _ _ | with_reducible assumption | with_reducible refine Below.drew ?_ | with_reducible refine below_drewN ?_ _ | with_reducible refine Below.setCell ?_ ?_ _ | with_reducible refine Below.alloc ?_ ?_ _ | omega | (simp; done) | (simp; omega)))) hb19
  replace ya3 := a3.size
  replace a5 : Below w5.heap.size w5 w19 := stepH (by (repeat' (first | with_reducible exact Below.refl _ _ | with_reducible assumption | with_reducible refine Below.drew ?_ | with_reducible refine below_drewN ?_ _ | with_reducible refine Below.setCell ?_ ?_ _ | with_reducible refine Below.alloc ?_ ?_ _ | omega | (simp; done) | (simp; omega)))) hb19
  replace ya5 := a5.size
  replace a6 : Below w6.heap.size w6 w19 := stepH (by (repeat' (first | with_reducible exact Below.refl _ _ | with_reducible assumption | with_reducible refine Below.drew ?_ | with_reducible refine below_drewN ?_ _ | with_reducible refine Below.setCell ?_ ?_ _ | with_reducible refine Below.alloc ?_ ?_ _ | omega | (simp; done) | (simp; omega)))) hb19
  replace ya6 := a6.size
  replace a7 : Below w7.heap.size w7 w19 := stepH (by (repeat' (first | with_reducible exact Below.refl _ _ | with_reducible assumption | with_reducible refine Below.drew ?_ | with_reducible refine below_drewN ?_ _ | with_reducible refine Below.setCell ?_ ?_ _ | with_reducible refine Below.alloc ?_ ?_ _ | omega | (simp; done) | (simp; omega)))) hb19
  replace ya7 := a7.size
  replace a8 : Below w8.heap.size w8 w19 := stepH (by (repeat' (first | with_reducible exact Below.refl _ _ | with_reducible assumption | with_reducible refine Below.drew ?_ | with_reducible refine below_drewN ?_ _ | with_reducible refine Below.setCell ?_ ?_ _ | with_reducible refine Below.alloc ?_ ?_ _ | omega | (simp; done) | (simp; omega)))) hb19
  replace ya8 := a8.size
  replace a10 : Below w10.heap.size w10 w19 := stepH (by (repeat' (first | with_reducible exact Below.refl _ _ | with_reducible assumption | with_reducible refine Below.drew ?_ | with_reducible refine below_drewN ?_ _ | with_reducible refine Below.setCell ?_ ?_ _ | with_reducible refine Below.alloc ?_ ?_ _ | omega | (simp; done) | (simp; omega)))) hb19
  replace ya10 := a10.size
  replace a11 : Below w11.heap.size w11 w19 := stepH (by (repeat' (first | with_reducible exact Below.refl _ _ | with_reducible assumption | with_reducible refine Below.drew ?_ | with_reducible refine below_drewN ?_ _ | with_reducible refine Below.setCell ?_ ?_ _ | with_reducible refine Below.alloc ?_ ?_ _ | omega | (simp; done) | (simp; omega)))) hb19
  replace ya11 := a11.size
  replace a13 : Below w13.heap.size w13 w19 := stepH (by (repeat' (first | with_reducible exact Below.refl _ _ | with_reducible assumption | with_reducible refine Below.drew ?_ | with_reducible refine below_drewN ?_ _ | with_reducible refine Below.setCell ?_ ?_ _ | with_reducible refine Below.alloc ?_ ?_ _ | omega | (simp; done) | (simp; omega)))) hb19
  replace ya13 := a13.size
  replace a14 : Below w14.heap.size w14 w19 := stepH (by (repeat' (first | with_reducible exact Below.refl _ _ | with_reducible assumption | with_reducible refine Below.drew ?_ | with_reducible refine below_drewN ?_ _ | with_reducible refine Below.setCell ?_ ?_ _ | with_reducible refine Below.alloc ?_ ?_ _ | omega | (simp; done) | (simp; omega)))) hb19
  replace ya14 := a14.size
  replace a15 : Below w15.heap.size w15 w19 := stepH (by (repeat' (first | with_reducible exact Below.refl _ _ | with_reducible assumption | with_reducible refine Below.drew ?_ | with_reducible refine below_drewN ?_ _ | with_reducible refine Below.setCell ?_ ?_ _ | with_reducible refine Below.alloc ?_ ?_ _ | omega | (simp; done) | (simp; omega)))) hb19
  replace ya15 := a15.size
  replace a17 : Below w17.heap.size w17 w19 := stepH (by (repeat' (first | with_reducible exact Below.refl _ _ | with_reducible assumption | with_reducible refine Below.drew ?_ | with_reducible refine below_drewN ?_ _ | with_reducible refine Below.setCell ?_ ?_ _ | with_reducible refine Below.alloc ?_ ?_ _ | omega | (simp; done) | (simp; omega)))) hb19
  replace ya17 := a17.size
  replace a18 : Below w18.heap.size w18 w19 := stepH (by (repeat' (first | with_reducible exact Below.refl _ _ | with_reducible assumption | with_reducible refine Below.drew ?_ | with_reducible refine below_drewN ?_ _ | with_reducible refine Below.setCell ?_ ?_ _ | with_reducible refine Below.alloc ?_ ?_ _ | omega | (simp; done) | (simp; omega)))) hb19
  replace ya18 := a18.size
  obtain rfl : r17 = r19 := HS17.out.uniq hs19
  have HR19 := Lib.hid hr19
  clear hr19 hs19
  replace X := keepH hb19 X.out
  replace Y := keepH hb19 Y.out
  replace Z := keepH hb19 Z.out
  have z19 := hw19.size
  clear hb19 hw18 z18
  clear cX lX lX1 lX2 cY lY lY1 lY2 cZ lZ lZ1 lZ2
  have cX := cellH X
  obtain ⟨lX, lX1, lX2⟩ := ltH X
  have cY := cellH Y
  obtain ⟨lY, lY1, lY2⟩ := ltH Y
  have cZ := cellH Z
  obtain ⟨lZ, lZ1, lZ2⟩ := ltH Z
  have a19 : Below w19.heap.size w19 w19 := Below.refl _ _
  have ya19 := a19.size
  go_wp2_with fail
  refine (sameSpans_yes r17 r17.length A18 A19 c18 c19 _ rfl (moved6 HR18.out (by (repeat' (first | with_reducible exact Below.refl _ _ | with_reducible assumption | with_reducible refine Below.drew ?_ | with_reducible refine below_drewN ?_ _ | with_reducible refine Below.setCell ?_ ?_ _ | with_reducible refine Below.alloc ?_ ?_ _ | omega | (simp; done) | (simp; omega))))) (moved6 HR19.out (by (repeat' (first | with_reducible exact Below.refl _ _ | with_reducible assumption | with_reducible refine Below.drew ?_ | with_reducible refine below_drewN ?_ _ | with_reducible refine Below.setCell ?_ ?_ _ | with_reducible refine Below.alloc ?_ ?_ _ | omega | (simp; done) | (simp; omega))))) (by omega)).mono ?_
  rintro e w20 ⟨rfl, hb20⟩
  have hw20 : Below w.heap.size w w20 := stepH (by (repeat' (first | with_reducible exact Below.refl _ _ | with_reducible assumption | with_reducible refine Below.drew ?_ | with_reducible refine below_drewN ?_ _ | with_reducible refine Below.setCell ?_ ?_ _ | with_reducible refine Below.alloc ?_ ?_ _ | omega | (simp; done) | (simp; omega)))) hb20
  replace a3 : Below w3.heap.size w3 w20 := stepH (by (repeat' (first | with_reducible exact Below.refl _ _ | with_reducible assumption | with_reducible refine Below.drew ?_ | with_reducible refine below_drewN ?_ _ | with_reducible refine Below.setCell ?_ ?_ _ | with_reducible refine Below.alloc ?_ ?_ _ | omega | (simp; done) | (simp; omega)))) hb20
  replace ya3 := a3.size
  replace a5 : Below w5.heap.size w5 w20 := stepH (by (repeat' (first | with_reducible exact Below.refl _ _ | with_reducible assumption | with_reducible refine Below.drew ?_ | with_reducible refine below_drewN ?_ _ | with_reducible refine Below.setCell ?_ ?_ _ | with_reducible refine Below.alloc ?_ ?_ _ | omega | (simp; done) | (simp; omega)))) hb20
  replace ya5 := a5.size
  replace a6 : Below w6.heap.size w6 w20 := stepH (by (repeat' (first | with_reducible exact Below.refl _ _ | with_reducible assumption | with_reducible refine Below.drew ?_ | with_reducible refine below_drewN ?_ _ | with_reducible refine Below.setCell ?_ ?_ _ | with_reducible refine Below.alloc ?_ ?_ _ | omega | (simp; done) | (simp; omega)))) hb20
  replace ya6 := a6.size
  replace a7 : Below w7.heap.size w7 w20 := stepH (by (repeat' (first | with_reducible exact Below.refl _ _ | with_reducible assumption | with_reducible refine Below.drew ?_ | with_reducible refine below_drewN ?_ _ | with_reducible refine Below.setCell ?_ ?_ _ | with_reducible refine Below.alloc ?_ ?_ _ | omega | (simp; done) | (simp; omega)))) hb20
  replace ya7 := a7.size
  replace a8 : Below w8.heap.size w8 w20 := stepH (by (repeat' (first | with_reducible exact Below.refl _ _ | with_reducible assumption | with_reducible refine Below.drew ?_ | with_reducible refine below_drewN ?_ _ | with_reducible refine Below.setCell ?_ ?_ _ | with_reducible refine Below.alloc ?_ ?_ _ | omega | (simp; done) | (simp; omega)))) hb20
  replace ya8 := a8.size
  replace a10 : Below w10.heap.size w10 w20 := stepH (by (repeat' (first | with_reducible exact Below.refl _ _ | with_reducible assumption | with_reducible refine Below.drew ?_ | with_reducible refine below_drewN ?_ _ | with_reducible refine Below.setCell ?_ ?_ _ | with_reducible refine Below.alloc ?_ ?_ _ | omega | (simp; done) | (simp; omega)))) hb20
  replace ya10 := a10.size
  replace a11 : Below w11.heap.size w11 w20 := stepH (by (repeat' (first | with_reducible exact Below.refl _ _ | with_reducible assumption | with_reducible refine Below.drew ?_ | with_reducible refine below_drewN ?_ _ | with_reducible refine Below.setCell ?_ ?_ _ | with_reducible refine Below.alloc ?_ ?_ _ | omega | (simp; done) | (simp; omega)))) hb20
  replace ya11 := a11.size
  replace a13 : Below w13.heap.size w13 w20 := stepH (by (repeat' (first | with_reducible exact Below.refl _ _ | with_reducible assumption | with_reducible refine Below.drew ?_ | with_reducible refine below_drewN ?_ _ | with_reducible refine Below.setCell ?_ ?_ _ | with_reducible refine Below.alloc ?_ ?_ _ | omega | (simp; done) | (simp; omega)))) hb20
  replace ya13 := a13.size
  replace a14 : Below w14.heap.size w14 w20 := stepH (by (repeat' (first | with_reducible exact Below.refl _ _ | with_reducible assumption | with_reducible refine Below.drew ?_ | with_reducible refine below_drewN ?_ _ | with_reducible refine Below.setCell ?_ ?_ _ | with_reducible refine Below.alloc ?_ ?_ _ | omega | (simp; done) | (simp; omega)))) hb20
  replace ya14 := a14.size
  replace a15 : Below w15.heap.size w15 w20 := stepH (by (repeat' (first | with_reducible exact Below.refl _ _ | with_reducible assumption | with_reducible refine Below.drew ?_ | with_reducible refine below_drewN ?_ _ | with_reducible refine Below.setCell ?_ ?_ _ | with_reducible refine Below.alloc ?_ ?_ _ | omega | (simp; done) | (simp; omega)))) hb20
  replace ya15 := a15.size
  replace a17 : Below w17.heap.size w17 w20 := stepH (by (repeat' (first | with_reducible exact Below.refl _ _ | with_reducible assumption | with_reducible refine Below.drew ?_ | with_reducible refine below_drewN ?_ _ | with_reducible refine Below.setCell ?_ ?_ _ | with_reducible refine Below.alloc ?_ ?_ _ | omega | (simp; done) | (simp; omega)))) hb20
  replace ya17 := a17.size
  replace a18 : Below w18.heap.size w18 w20 := stepH (by (repeat' (first | with_reducible exact Below.refl _ _ | with_reducible assumption | with_reducible refine Below.drew ?_ | with_reducible refine below_drewN ?_ _ | with_reducible refine Below.setCell ?_ ?_ _ | with_reducible refine Below.alloc ?_ ?_ _ | omega | (simp; done) | (simp; omega)))) hb20
  replace ya18 := a18.size
  replace a19 : Below w19.heap.size w19 w20 := stepH (by (repeat' (first | with_reducible exact Below.refl _ _ | with_reducible assumption | with_reducible refine Below.drew ?_ | with_reducible refine below_drewN ?_ _ | with_reducible refine Below.setCell ?_ ?_ _ | with_reducible refine Below.alloc ?_ ?_ _ | omega | (simp; done) | (simp; omega)))) hb20
  replace ya19 := a19.size
  replace X := keepH hb20 X.out
  replace Y := keepH hb20 Y.out
  replace Z := keepH hb20 Z.out
  have z20 := hw20.size
  clear hb20 hw19 z19
  clear cX lX lX1 lX2 cY lY lY1 lY2 cZ lZ lZ1 lZ2
  have cX := cellH X
  obtain ⟨lX, lX1, lX2⟩ := ltH X
  have cY := cellH Y
  obtain ⟨lY, lY1, lY2⟩ := ltH Y
  have cZ := cellH Z
  obtain ⟨lZ, lZ1, lZ2⟩ := ltH Z
  clear a5 ya5 a6 ya6 a8 ya8 a10 ya10 a11 ya11 a13 ya13 a14 ya14 a15 ya15 a17 ya17 a18 ya18 a19 ya19
  clear cX lX lX1 lX2 cY lY lY1 lY2 cZ lZ lZ1 lZ2
  go_wp2_with fail
  go_loopw [21, 22] (fun u i wr => ∃ (j : Nat) (out : List (Pc Int)), j ≤ ra.length ∧ i = .int .i64 j ∧ out.length ≤ j ∧ Own encP 3 86 w20.heap.size wr u out ∧ Hid (out = (ra.take j).filter (fun p => oddG p.v)) ∧ Below w20.heap.size w20 wr) (fun _ i _ => ra.length - (intOf i).toNat)
  case atStart => exact ⟨0, [], Nat.zero_le _, rfl, Nat.le_refl _, Own.nil, rfl, Below.refl _ _⟩
  case round =>
    obtain ⟨j, out, hj, rfl, ho, hown, HJ, hol⟩ := hrel
    have zr := hol.size
    have HO := Lib.hid hown
    clear hown
    by_cases hlt : j < ra.length
    · obtain ⟨p, hp⟩ : ∃ p, ra[j]? = some p := ⟨ra[j], List.getElem?_eq_getElem hlt⟩
      obtain ⟨g, off, rfl, hg, j0, j1, j2⟩ := cells3 ((moved6 HR7.out a7).below hol (Nat.le_refl _)) hp
      have hlt2 : (j : Int) < (ra.length : Int) := by omega
      have HSN := Lib.hid (oddT_snoc (g := oddG) hp)
      clear hp
      cases hgp : oddG p.v with
      | true =>
        have HN : Hid ((ra.take (j + 1)).filter (fun p => oddG p.v) = (ra.take j).filter (fun p => oddG p.v) ++ [p]) := by show _ = _; rw [HSN.out, if_pos hgp]
        unfold oddG at hgp
        go_wp2_with (at_builtin; go_must (refine wpList_append_own _ rfl (.tmp 115) (.tmp 120) 71 rfl w20.heap.size 86 inf0 _ 3 24 Tryd.underlying71 hi jz0 jz1 jz2 rfl (by decide) _ out.length _ rfl (own_below HO.out (by (repeat' (first | with_reducible exact Below.refl _ _ | with_reducible assumption | with_reducible refine Below.drew ?_ | with_reducible refine below_drewN ?_ _ | with_reducible refine Below.setCell ?_ ?_ _ | with_reducible refine Below.alloc ?_ ?_ _ | omega | (simp; done) | (simp; omega))))) ⟨wr.heap.size, 0, none⟩ 1 1 [.int .i64 p.f, .int .i64 p.t, .int .i64 p.v] rfl rfl (World.news_of_block (cs := #[.int .i64 p.f, .int .i64 p.t, .int .i64 p.v]) (blk_new (by simp))) (by simp [Value.oneCell']) (by unfold maxLen; omega) (by omega) (by simp; omega) ?_); intro v' w90 hown9 hgrow9 _)
        go_roundw
        case rel => exact ⟨j + 1, out ++ [p], by omega, by go_num, (by simp only [List.length_append, List.length_cons, List.length_nil]; omega), Own.snoc hown9 rfl rfl, (by show _ = _; rw [HJ.out, HN.out]), Below.grown (by (repeat' (first | with_reducible exact Below.refl _ _ | with_reducible assumption | with_reducible refine Below.drew ?_ | with_reducible refine below_drewN ?_ _ | with_reducible refine Below.setCell ?_ ?_ _ | with_reducible refine Below.alloc ?_ ?_ _ | omega | (simp; done) | (simp; omega)))) hgrow9 (by simp; omega) (fun g hg => (HO.out.lt g hg).1)⟩
        case measure => simp [intOf]; omega
      | false =>
        have HN : Hid ((ra.take (j + 1)).filter (fun p => oddG p.v) = (ra.take j).filter (fun p => oddG p.v)) := by show _ = _; rw [HSN.out, if_neg (by rw [hgp]; decide), List.append_nil]
        unfold oddG at hgp
        go_wp2_with fail
        go_roundw
        case rel => exact ⟨j + 1, out, by omega, by go_num, by omega, HO.out, (by show _ = _; rw [HJ.out, HN.out]), by (repeat' (first | with_reducible exact Below.refl _ _ | with_reducible assumption | with_reducible refine Below.drew ?_ | with_reducible refine below_drewN ?_ _ | with_reducible refine Below.setCell ?_ ?_ _ | with_reducible refine Below.alloc ?_ ?_ _ | omega | (simp; done) | (simp; omega)))⟩
        case measure => simp [intOf]; omega
    · obtain rfl : j = ra.length := by omega
      rw [List.take_length] at HJ
      obtain ⟨wl, rfl⟩ : ∃ x : World, x = wr := ⟨_, rfl⟩
      have hwl : Below w.heap.size w wl := hw20.trans (hol.mono (by omega))
      have zl := hwl.size
      replace X := Lib.hid ((hol.block _ (lt_of_H X)).trans X.out)
      replace Y := Lib.hid ((hol.block _ (lt_of_H Y)).trans Y.out)
      replace Z := Lib.hid ((hol.block _ (lt_of_H Z)).trans Z.out)
      replace a3 := a3.trans (hol.mono (by omega))
      replace a7 := a7.trans (hol.mono (by omega))
      replace ya3 := a3.size
      replace ya7 := a7.size
      obtain ⟨A20, c20, rfl, hr20, _, _⟩ := own_line (fun x _ => encP_len x) HO.out
      have HR20 := Lib.hid hr20
      have hvo : Hid (∀ p ∈ out, ValidP MD p) := fun p hp => HVRA.out p (by rw [HJ.out] at hp; exact (List.mem_filter.1 hp).1)
      clear hr20 hol HO hlt
      have a20 : Below wl.heap.size wl wl := Below.refl _ _
      have ya20 := a20.size
      have cX := cellH X
      obtain ⟨lX, lX1, lX2⟩ := ltH X
      have cY := cellH Y
      obtain ⟨lY, lY1, lY2⟩ := ltH Y
      have cZ := cellH Z
      obtain ⟨lZ, lZ1, lZ2⟩ := ltH Z
      go_wp2_with fail
      refine (where_any ra A3 c3 43 #[] oddG _ (moved6 HR3.out (by (repeat' (first | with_reducible exact Below.refl _ _ | with_reducible assumption | with_reducible refine Below.drew ?_ | with_reducible refine below_drewN ?_ _ | with_reducible refine Below.setCell ?_ ?_ _ | with_reducible refine Below.alloc ?_ ?_ _ | omega | (simp; done) | (simp; omega))))) (by omega) HM3.out.canon.rise HM3.out.canon.upTo (enters_of Tryd.func43 (by kernel_rfl) rfl) (fun x W _ => odd1_any x W)).mono ?_
      rintro e w41 ⟨⟨A21, c21, r21, rfl, hr21, hA21, hs21⟩, hb41⟩
      have hw41 : Below w.heap.size w w41 := stepH (by (repeat' (first | with_reducible exact Below.refl _ _ | with_reducible assumption | with_reducible refine Below.drew ?_ | with_reducible refine below_drewN ?_ _ | with_reducible refine Below.setCell ?_ ?_ _ | with_reducible refine Below.alloc ?_ ?_ _ | omega | (simp; done) | (simp; omega)))) hb41
      replace a3 : Below w3.heap.size w3 w41 := stepH (by (repeat' (first | with_reducible exact Below.refl _ _ | with_reducible assumption | with_reducible refine Below.drew ?_ | with_reducible refine below_drewN ?_ _ | with_reducible refine Below.setCell ?_ ?_ _ | with_reducible refine Below.alloc ?_ ?_ _ | omega | (simp; done) | (simp; omega)))) hb41
      replace ya3 := a3.size
      replace a7 : Below w7.heap.size w7 w41 := stepH (by (repeat' (first | with_reducible exact Below.refl _ _ | with_reducible assumption | with_reducible refine Below.drew ?_ | with_reducible refine below_drewN ?_ _ | with_reducible refine Below.setCell ?_ ?_ _ | with_reducible refine Below.alloc ?_ ?_ _ | omega | (simp; done) | (simp; omega)))) hb41
      replace ya7 := a7.size
      replace a20 : Below wl.heap.size wl w41 := stepH (by (repeat' (first | with_reducible exact Below.refl _ _ | with_reducible assumption | with_reducible refine Below.drew ?_ | with_reducible refine below_drewN ?_ _ | with_reducible refine Below.setCell ?_ ?_ _ | with_reducible refine Below.alloc ?_ ?_ _ | omega | (simp; done) | (simp; omega)))) hb41
      replace ya20 := a20.size
      have HR21 := Lib.hid hr21
      have HA21 := Lib.hid hA21
      have HS21 := Lib.hid hs21
      have hrl21 : r21.length ≤ 400 := by have h := hs21.len; have h9 := selL_len oddG ra; omega
      clear hr21 hA21 hs21
      replace X := keepH hb41 X.out
      replace Y := keepH hb41 Y.out
      replace Z := keepH hb41 Z.out
      have z41 := hw41.size
      clear hb41 hwl zl
      clear cX lX lX1 lX2 cY lY lY1 lY2 cZ lZ lZ1 lZ2
      have cX := cellH X
      obtain ⟨lX, lX1, lX2⟩ := ltH X
      have cY := cellH Y
      obtain ⟨lY, lY1, lY2⟩ := ltH Y
      have cZ := cellH Z
      obtain ⟨lZ, lZ1, lZ2⟩ := ltH Z
      have a21 : Below w41.heap.size w41 w41 := Below.refl _ _
      have ya21 := a21.size
      go_wp2_with fail
      refine (spansD_any r21 A21 c21 _ (moved6 HR21.out (by (repeat' (first | with_reducible exact Below.refl _ _ | with_reducible assumption | with_reducible refine Below.drew ?_ | with_reducible refine below_drewN ?_ _ | with_reducible refine Below.setCell ?_ ?_ _ | with_reducible refine Below.alloc ?_ ?_ _ | omega | (simp; done) | (simp; omega))))) (by omega) HA21.out).mono ?_
      rintro e w42 ⟨v22, rfl, hown22, hb42⟩
      have hw42 : Below w.heap.size w w42 := stepH (by (repeat' (first | with_reducible exact Below.refl _ _ | with_reducible assumption | with_reducible refine Below.drew ?_ | with_reducible refine below_drewN ?_ _ | with_reducible refine Below.setCell ?_ ?_ _ | with_reducible refine Below.alloc ?_ ?_ _ | omega | (simp; done) | (simp; omega)))) hb42
      replace a3 : Below w3.heap.size w3 w42 := stepH (by (repeat' (first | with_reducible exact Below.refl _ _ | with_reducible assumption | with_reducible refine Below.drew ?_ | with_reducible refine below_drewN ?_ _ | with_reducible refine Below.setCell ?_ ?_ _ | with_reducible refine Below.alloc ?_ ?_ _ | omega | (simp; done) | (simp; omega)))) hb42
      replace ya3 := a3.size
      replace a7 : Below w7.heap.size w7 w42 := stepH (by (repeat' (first | with_reducible exact Below.refl _ _ | with_reducible assumption | with_reducible refine Below.drew ?_ | with_reducible refine below_drewN ?_ _ | with_reducible refine Below.setCell ?_ ?_ _ | with_reducible refine Below.alloc ?_ ?_ _ | omega | (simp; done) | (simp; omega)))) hb42
      replace ya7 := a7.size
      replace a20 : Below wl.heap.size wl w42 := stepH (by (repeat' (first | with_reducible exact Below.refl _ _ | with_reducible assumption | with_reducible refine Below.drew ?_ | with_reducible refine below_drewN ?_ _ | with_reducible refine Below.setCell ?_ ?_ _ | with_reducible refine Below.alloc ?_ ?_ _ | omega | (simp; done) | (simp; omega)))) hb42
      replace ya20 := a20.size
      replace a21 : Below w41.heap.size w41 w42 := stepH (by (repeat' (first | with_reducible exact Below.refl _ _ | with_reducible assumption | with_reducible refine Below.drew ?_ | with_reducible refine below_drewN ?_ _ | with_reducible refine Below.setCell ?_ ?_ _ | with_reducible refine Below.alloc ?_ ?_ _ | omega | (simp; done) | (simp; omega)))) hb42
      replace ya21 := a21.size
      obtain ⟨A22, c22, rfl, hr22, _, _⟩ := own_line (fun x _ => encU_len x) hown22
      have HR22 := Lib.hid hr22
      clear hr22 hown22
      replace X := keepH hb42 X.out
      replace Y := keepH hb42 Y.out
      replace Z := keepH hb42 Z.out
      have z42 := hw42.size
      clear hb42 hw41 z41
      clear cX lX lX1 lX2 cY lY lY1 lY2 cZ lZ lZ1 lZ2
      have cX := cellH X
      obtain ⟨lX, lX1, lX2⟩ := ltH X
      have cY := cellH Y
      obtain ⟨lY, lY1, lY2⟩ := ltH Y
      have cZ := cellH Z
      obtain ⟨lZ, lZ1, lZ2⟩ := ltH Z
      have a22 : Below w42.heap.size w42 w42 := Below.refl _ _
      have ya22 := a22.size
      go_wp2_with fail
      refine (refDays6_any out A20 c20 _ (moved6 HR20.out (by (repeat' (first | with_reducible exact Below.refl _ _ | with_reducible assumption | with_reducible refine Below.drew ?_ | with_reducible refine below_drewN ?_ _ | with_reducible refine Below.setCell ?_ ?_ _ | with_reducible refine Below.alloc ?_ ?_ _ | omega | (simp; done) | (simp; omega))))) (by omega) hvo.out).mono ?_
      rintro e w43 ⟨⟨A23, c23, r23, rfl, hr23, _, hs23⟩, hb43⟩
      have hw43 : Below w.heap.size w w43 := stepH (by (repeat' (first | with_reducible exact Below.refl _ _ | with_reducible assumption | with_reducible refine Below.drew ?_ | with_reducible refine below_drewN ?_ _ | with_reducible refine Below.setCell ?_ ?_ _ | with_reducible refine Below.alloc ?_ ?_ _ | omega | (simp; done) | (simp; omega)))) hb43
      replace a3 : Below w3.heap.size w3 w43 := stepH (by (repeat' (first | with_reducible exact Below.refl _ _ | with_reducible assumption | with_reducible refine Below.drew ?_ | with_reducible refine below_drewN ?_ _ | with_reducible refine Below.setCell ?_ ?_ _ | with_reducible refine Below.alloc ?_ ?_ _ | omega | (simp; done) | (simp; omega)))) hb43
      replace ya3 := a3.size
      replace a7 : Below w7.heap.size w7 w43 := stepH (by (repeat' (first | with_reducible exact Below.refl _ _ | with_reducible assumption | with_reducible refine Below.drew ?_ | with_reducible refine below_drewN ?_ _ | with_reducible refine Below.setCell ?_ ?_ _ | with_reducible refine Below.alloc ?_ ?_ _ | omega | (simp; done) | (simp; omega)))) hb43
      replace ya7 := a7.size
      replace a20 : Below wl.heap.size wl w43 := stepH (by (repeat' (first | with_reducible exact Below.refl _ _ | with_reducible assumption | with_reducible refine Below.drew ?_ | with_reducible refine below_drewN ?_ _ | with_reducible refine Below.setCell ?_ ?_ _ | with_reducible refine Below.alloc ?_ ?_ _ | omega | (simp; done) | (simp; omega)))) hb43
      replace ya20 := a20.size
      replace a21 : Below w41.heap.size w41 w43 := stepH (by (repeat' (first | with_reducible exact Below.refl _ _ | with_reducible assumption | with_reducible refine Below.drew ?_ | with_reducible refine below_drewN ?_ _ | with_reducible refine Below.setCell ?_ ?_ _ | with_reducible refine Below.alloc ?_ ?_ _ | omega | (simp; done) | (simp; omega)))) hb43
      replace ya21 := a21.size
      replace a22 : Below w42.heap.size w42 w43 := stepH (by (repeat' (first | with_reducible exact Below.refl _ _ | with_reducible assumption | with_reducible refine Below.drew ?_ | with_reducible refine below_drewN ?_ _ | with_reducible refine Below.setCell ?_ ?_ _ | with_reducible refine Below.alloc ?_ ?_ _ | omega | (simp; done) | (simp; omega)))) hb43
      replace ya22 := a22.size
      rw [HJ.out, selO_eq] at hs23
      obtain rfl : r21 = r23 := HS21.out.uniq hs23
      have HR23 := Lib.hid hr23
      clear hr23 hs23
      replace X := keepH hb43 X.out
      replace Y := keepH hb43 Y.out
      replace Z := keepH hb43 Z.out
      have z43 := hw43.size
      clear hb43 hw42 z42
      clear cX lX lX1 lX2 cY lY lY1 lY2 cZ lZ lZ1 lZ2
      have cX := cellH X
      obtain ⟨lX, lX1, lX2⟩ := ltH X
      have cY := cellH Y
      obtain ⟨lY, lY1, lY2⟩ := ltH Y
      have cZ := cellH Z
      obtain ⟨lZ, lZ1, lZ2⟩ := ltH Z
      have a23 : Below w43.heap.size w43 w43 := Below.refl _ _
      have ya23 := a23.size
      go_wp2_with fail
      refine (sameSpans_yes r21 r21.length A22 A23 c22 c23 _ rfl (moved6 HR22.out (by (repeat' (first | with_reducible exact Below.refl _ _ | with_reducible assumption | with_reducible refine Below.drew ?_ | with_reducible refine below_drewN ?_ _ | with_reducible refine Below.setCell ?_ ?_ _ | with_reducible refine Below.alloc ?_ ?_ _ | omega | (simp; done) | (simp; omega))))) (moved6 HR23.out (by (repeat' (first | with_reducible exact Below.refl _ _ | with_reducible assumption | with_reducible refine Below.drew ?_ | with_reducible refine below_drewN ?_ _ | with_reducible refine Below.setCell ?_ ?_ _ | with_reducible refine Below.alloc ?_ ?_ _ | omega | (simp; done) | (simp; omega))))) (by omega)).mono ?_
      rintro e w44 ⟨rfl, hb44⟩
      have hw44 : Below w.heap.size w w44 := stepH (by (repeat' (first | with_reducible exact Below.refl _ _ | with_reducible assumption | with_reducible refine Below.drew ?_ | with_reducible refine below_drewN ?_ _ | with_reducible refine Below.setCell ?_ ?_ _ | with_reducible refine Below.alloc ?_ ?_ _ | omega | (simp; done) | (simp; omega)))) hb44
      replace a3 : Below w3.heap.size w3 w44 := stepH (by (repeat' (first | with_reducible exact Below.refl _ _ | with_reducible assumption | with_reducible refine Below.drew ?_ | with_reducible refine below_drewN ?_ _ | with_reducible refine Below.setCell ?_ ?_ _ | with_reducible refine Below.alloc ?_ ?_ _ | omega | (simp; done) | (simp; omega)))) hb44
      replace ya3 := a3.size
      replace a7 : Below w7.heap.size w7 w44 := stepH (by (repeat' (first | with_reducible exact Below.refl _ _ | with_reducible assumption | with_reducible refine Below.drew ?_ | with_reducible refine below_drewN ?_ _ | with_reducible refine Below.setCell ?_ ?_ _ | with_reducible refine Below.alloc ?_ ?_ _ | omega | (simp; done) | (simp; omega)))) hb44
      replace ya7 := a7.size
      replace a20 : Below wl.heap.size wl w44 := stepH (by (repeat' (first | with_reducible exact Below.refl _ _ | with_reducible assumption | with_reducible refine Below.drew ?_ | with_reducible refine below_drewN ?_ _ | with_reducible refine Below.setCell ?_ ?_ _ | with_reducible refine Below.alloc ?_ ?_ _ | omega | (simp; done) | (simp; omega)))) hb44
      replace ya20 := a20.size
      replace a21 : Below w41.heap.size w41 w44 := stepH (by (repeat' (first | with_reducible exact Below.refl _ _ | with_reducible assumption | with_reducible refine Below.drew ?_ | with_reducible refine below_drewN ?_ _ | with_reducible refine Below.setCell ?_ ?_ _ | with_reducible refine Below.alloc ?_ ?_ _ | omega | (simp; done) | (simp; omega)))) hb44
      replace ya21 := a21.size
      replace a22 : Below w42.heap.size w42 w44 := stepH (by (repeat' (first | with_reducible exact Below.refl _ _ | with_reducible assumption | with_reducible refine Below.drew ?_ | with_reducible refine below_drewN ?_ _ | with_reducible refine Below.setCell ?_ ?_ _ | with_reducible refine Below.alloc ?_ ?_ _ | omega | (simp; done) | (simp; omega)))) hb44
      replace ya22 := a22.size
      replace a23 : Below w43.heap.size w43 w44 := stepH (by (repeat' (first | with_reducible exact Below.refl _ _ | with_reducible assumption | with_reducible refine Below.drew ?_ | with_reducible refine below_drewN ?_ _ | with_reducible refine Below.setCell ?_ ?_ _ | with_reducible refine Below.alloc ?_ ?_ _ | omega | (simp; done) | (simp; omega)))) hb44
      replace ya23 := a23.size
      replace X := keepH hb44 X.out
      replace Y := keepH hb44 Y.out
      replace Z := keepH hb44 Z.out
      have z44 := hw44.size
      clear hb44 hw43 z43
      clear cX lX lX1 lX2 cY lY lY1 lY2 cZ lZ lZ1 lZ2
      have cX := cellH X
      obtain ⟨lX, lX1, lX2⟩ := ltH X
      have cY := cellH Y
      obtain ⟨lY, lY1, lY2⟩ := ltH Y
      have cZ := cellH Z
      obtain ⟨lZ, lZ1, lZ2⟩ := ltH Z
      go_wp2_with fail
      go_ret
      exact ⟨rfl, by (repeat' (first | with_reducible exact Below.refl _ _ | with_reducible assumption | with_reducible refine Below.drew ?_ | with_reducible refine below_drewN ?_ _ | with_reducible refine Below.setCell ?_ ?_ _ | with_reducible refine Below.alloc ?_ ?_ _ | omega | (simp; done) | (simp; omega)))⟩

set_option maxRecDepth 100000 in
theorem lineLaid_walk (l k : List (Pc Int)) (s : List (Pc Unit)) (A B D : Option Addr) (c d e9 : Nat) (E : Nat → Addr) (w : World) (hl : RowAt encP 3 w w.heap.size A l) (hk : RowAt encP 3 w w.heap.size B k) (hs : RowAt encU 2 w w.heap.size D s) (hE : Env L6 E w) :
    Calls Tryd.prog 5 #[.slice A l.length c, .slice B k.length d, .slice D s.length e9] w fun e w' => e = .returned (.bool true) ∧ Below w.heap.size w w' := by
  by_cases h1 : 200 < l.length
  · exact laid_x l k s A B D c d e9 E w h1
  by_cases h2 : 200 < k.length
  · exact laid_y l k s A B D c d e9 E w (by omega) h2
  by_cases h3 : 200 < s.length
  · exact laid_z l k s A B D c d e9 E w (by omega) (by omega) h3
  by_cases hbl : ∀ p ∈ l, ValidP MD p
  · by_cases hbk : ∀ p ∈ k, ValidP MD p
    · by_cases hbs : ∀ p ∈ s, ValidS MD p
      · exact laid_g l k s A B D c d e9 E w hl hk hs (by omega) (by omega) (by omega) hbl hbk hbs
      · exact laid_c l k s A B D c d e9 E w hl hk hs (by omega) (by omega) (by omega) hE hbl hbk hbs
    · exact laid_b l k s A B D c d e9 E w hl hk hs (by omega) (by omega) (by omega) hE hbl hbk
  · by_cases hbk : ∀ p ∈ k, ValidP MD p
    · exact laid_a l k s A B D c d e9 E w hl hk hs (by omega) (by omega) (by omega) hE true hbl ⟨fun _ => hbk, fun _ => rfl⟩
    · exact laid_a l k s A B D c d e9 E w hl hk hs (by omega) (by omega) (by omega) hE false hbl ⟨fun h => (by cases h), fun h => absurd h hbk⟩
end

end Go.Proofs.YtmodofbelpaelaaDoor
