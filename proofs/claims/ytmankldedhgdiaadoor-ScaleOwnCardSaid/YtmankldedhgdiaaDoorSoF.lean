/- Brackets of two slices, one behind the other (slices.Concat): walks. -/
import Derived.Test.YtmankldedhgdiaaDoorSoE
import Derived.Lib.AppendZeros
namespace Go.Proofs.YtmankldedhgdiaaDoor
open Go.RowKit

/-- 'append' onto a slice of the call's own, any source -/
theorem wpList_append_anyS {P : Program} {ops : Array Oper} {rest : List Oper} {o : Oper} {a : Act} {w : World} {Q : Exit → Act → World → Prop} (hgd : o.guard = none) (s x : Operand) (t : TypeId)
    (ho : o.op = .call { callee := .builtin .append, args := #[s, x], argTypes := #[t, t] })
    (base : Nat) (e : TypeId) (i : TypeInfo) (z : Value) (size bytes : Nat) (ht : P.underlying t = some (.slice e)) (hi : P.info? e = some i) (hz : i.zero = some z)
    (hsize : i.size = size) (hby : i.bytes = bytes) (hzs : z.cells.size = size) (hsz : 0 < size)
    (v : Value) (n : Nat) (xs : List Value) (hs : a.eval s = v) (hown : w.ownsRow base e size v n xs)
    (A : Option Addr) (m c : Nat) (news : List Value) (hx : a.eval x = .slice A m c) (hl : news.length = m * size) (hnews : ∀ ad, A = some ad → ∀ j u, news[j]? = some u → w.cell? (ad.add j) = some u) (hA : A = none → m = 0 ∧ c = 0) (h1 : ∀ u ∈ news, u.oneCell' = true)
    (h63 : n + m ≤ maxLen) (hbytes : (n + m) * bytes ≤ 140737488355328) (hbase : base ≤ w.heap.size)
    (h : ∀ v' w', w'.ownsRow base e size v' (n + m) (xs ++ news) → w.grownBy w' v.ownBlock → wpList P ops Q rest (a.put o.dst v') w') : wpList P ops Q (o :: rest) a w := by
  refine wpList_plain hgd fun K hK => ?_
  cases A with
  | some ad => exact wp_append_own w s x t ho base e i z size bytes ht hi hz hsize hby hzs hsz v n xs hs hown ad m c news hx hl (hnews ad rfl) h1 h63 hbytes hbase fun v' w' h2 h3 _ => hK _ _ (h v' w' h2 h3)
  | none =>
    obtain ⟨rfl, rfl⟩ := hA rfl
    have hrun := run_append_owned_none (P := P) (w := w) base t o.type e i size ht hi v n xs hown
    obtain rfl : news = [] := List.eq_nil_of_length_eq_zero (by simpa using hl)
    unfold Oper.wp
    simp [execOp, ho, resolve, invoke, builtin, hs, hx, hrun, Result.andThen]
    exact hK _ _ (h _ _ (by simpa using hown) ⟨rfl, rfl, rfl, Nat.le_refl _, fun _ _ _ => rfl⟩)

set_option maxRecDepth 100000 in
set_option maxHeartbeats 4000000 in
theorem growB_any (n : Nat) (w : World) (hn : n ≤ 100000) :
    Calls Tryd.prog 62 #[.slice none 0 0, .int .i64 n] w fun e w' => (∃ v, e = .returned v ∧ Own encR 4 31 w.heap.size w' v []) ∧ Below w.heap.size w w' := by
  obtain ⟨inf0, hi, jz0, jz1, jz2⟩ := info_parts infoBr
  by_cases h0 : n = 0
  · subst h0
    go_enter Tryd.func62, Tryd.ntmps62
    go_wp2_with fail
    go_ret
    exact ⟨⟨_, rfl, Own.nil⟩, by (repeat' (first | with_reducible exact Below.refl _ _ | with_reducible assumption | with_reducible refine Below.drew ?_ | with_reducible refine below_drewN ?_ _ | with_reducible refine Below.setCell ?_ ?_ _ | with_reducible refine Below.alloc ?_ ?_ _ | omega | (simp; done) | (simp; omega)))⟩
  have hpos : (0 : Int) < (n : Int) := by omega
  have hw0 : IntKind.i64.wrap (n : Int) = n := IntWalk.i64_in _ (by omega)
  have happ := Lib.run_append_nil_zeros (P := Tryd.prog) w 22 3 22 31 inf0 _ .i64 .i64 Tryd.underlying22 Tryd.underlying3 hi jz0 n (by omega) (by omega) (by omega) (by rw [jz2]; omega)
  generalize hcap : grownCap w n 0 31 = cap2 at happ
  have hcapge : n ≤ cap2 := by rw [← hcap]; exact grownCap_ge w _ 0 _
  have hcaple : cap2 ≤ maxLen := by rw [← hcap]; exact grownCap_le_maxLen w _ 0 _ (by unfold maxLen; omega)
  generalize hZ : (Builtin.zeroCells (Value.agg #[.int .i64 0, .int .i64 0, .int .i64 0, .int .i64 0]).cells n ++ Builtin.zeroCells (Value.agg #[.int .i64 0, .int .i64 0, .int .i64 0, .int .i64 0]).cells (cap2 - n)) = Z at happ
  have hZs : Hid (Z.size = cap2 * 4) := by show _ = _; rw [← hZ]; simp [size_zeroCells, Value.cells]; omega
  clear hcap hZ
  go_enter Tryd.func62, Tryd.ntmps62
  go_wp2_with (at_builtin; go_must (refine Lib.wpList_append_run _ rfl (.tmp 20) (.tmp 21) 22 3 rfl _ _ rfl rfl _ _ happ ?_))
  go_ret
  refine ⟨⟨_, rfl, ?_⟩, by (repeat' (first | with_reducible exact Below.refl _ _ | with_reducible assumption | with_reducible refine Below.drew ?_ | with_reducible refine below_drewN ?_ _ | with_reducible refine Below.setCell ?_ ?_ _ | with_reducible refine Below.alloc ?_ ?_ _ | omega | (simp; done) | (simp; omega)))⟩
  exact ⟨rfl, .inr ⟨w.heap.size, cap2, Z, rfl, Nat.le_refl _, blk_new rfl, Nat.zero_le _, hcaple, hZs.out, by simp⟩⟩

/-- a slice's header as an element -/
def encS (v : Value) : List Value := [v]
theorem infoSl : (Tryd.prog.info? 22).map (fun i => (i.zero, i.size, i.bytes)) = some (some (.slice none 0 0), 1, 24) := by kernel_rfl

set_option maxRecDepth 100000 in
set_option maxHeartbeats 4000000 in
theorem concat_any (s t : List BI) (A B : Option Addr) (c d g : Nat) (w : World) (hl : RowAt encR 4 w w.heap.size A s) (hr : RowAt encR 4 w w.heap.size B t) (hA : A = none → s.length = 0 ∧ c = 0) (hB : B = none → t.length = 0 ∧ d = 0) (h1 : s.length ≤ 1000) (h2 : t.length ≤ 1000)
    (hg : Hid (w.heap[g]? = some (.cells #[.slice A s.length c, .slice B t.length d] 22 (0, 0)))) :
    Calls Tryd.prog 47 #[.slice (some ⟨g, 0, none⟩) 2 2] w fun e w' => (∃ v, e = .returned v ∧ Own encR 4 31 w.heap.size w' v (s ++ t)) ∧ Below w.heap.size w w' := by
  obtain ⟨inf0, hi, jz0, jz1, jz2⟩ := info_parts infoBr
  have HL := Lib.hid hl
  have HR := Lib.hid hr
  have HA := Lib.hid hA
  have HB := Lib.hid hB
  have lg := lt_of_H hg
  have cg := cellH hg
  have a0 : w.cell? ⟨g, 0, none⟩ = some (.slice A s.length c) := cellH hg 0
  have a1 : w.cell? ⟨g, 1, none⟩ = some (.slice B t.length d) := cellH hg 1
  have A0 := Lib.hid a0
  have A1 := Lib.hid a1
  have HN1 := Lib.hid (encR_flat s)
  have HN2 := Lib.hid (encR_flat t)
  have HF1 : Hid (∀ W, Below w.heap.size w W → ∀ ad, A = some ad → ∀ j u, (s.flatMap encR)[j]? = some u → W.cell? (ad.add j) = some u) := by
    refine Lib.hid (fun W hW ad e => ?_)
    subst e
    cases s with
    | nil => intro j u h; simp at h
    | cons b r =>
      obtain ⟨g, off, e, _⟩ := hl 0 b rfl
      injection e with e
      subst e
      exact row_flat (hl.below hW (Nat.le_refl _))
  have HF2 : Hid (∀ W, Below w.heap.size w W → ∀ ad, B = some ad → ∀ j u, (t.flatMap encR)[j]? = some u → W.cell? (ad.add j) = some u) := by
    refine Lib.hid (fun W hW ad e => ?_)
    subst e
    cases t with
    | nil => intro j u h; simp at h
    | cons b r =>
      obtain ⟨g, off, e, _⟩ := hr 0 b rfl
      injection e with e
      subst e
      exact row_flat (hr.below hW (Nat.le_refl _))
  clear hl hr hA hB cg hg a0 a1
  go_enter Tryd.func47, Tryd.ntmps47
  go_wp2_with fail
  go_loopw [3, 11] (fun n i wr => ∃ m k : Nat, ((k = 0 ∧ m = 0) ∨ (k = 1 ∧ m = s.length) ∨ (k = 2 ∧ m = s.length + t.length)) ∧ n = .int .i64 m ∧ i = .int .i64 k ∧ Below w.heap.size w wr) (fun _ i _ => 2 - (intOf i).toNat)
  case atStart => exact ⟨0, 0, .inl ⟨rfl, rfl⟩, rfl, rfl, Below.refl _ _⟩
  case round =>
    obtain ⟨m, k, hmk, rfl, rfl, hw0⟩ := hrel
    have z0 := hw0.size
    have a0 : wr.cell? ⟨g, 0, none⟩ = some (.slice A s.length c) := (hw0.cell (p := ⟨g, 0, none⟩) lg).trans A0.out
    have a1 : wr.cell? ⟨g, 1, none⟩ = some (.slice B t.length d) := (hw0.cell (p := ⟨g, 1, none⟩) lg).trans A1.out
    rcases hmk with ⟨rfl, rfl⟩ | ⟨rfl, rfl⟩ | ⟨rfl, rfl⟩
    · have q1 : IntKind.i64.wrap (0 + (s.length : Int)) = (s.length : Int) := by rw [Int.zero_add]; exact IntWalk.i64_in _ (by omega)
      have q2 : ¬ (s.length : Int) < 0 := by omega
      go_wp2_with fail
      go_roundw
      case rel => exact ⟨s.length, 1, .inr (.inl ⟨rfl, rfl⟩), by go_num, by go_num, by (repeat' (first | with_reducible exact Below.refl _ _ | with_reducible assumption | with_reducible refine Below.drew ?_ | with_reducible refine below_drewN ?_ _ | with_reducible refine Below.setCell ?_ ?_ _ | with_reducible refine Below.alloc ?_ ?_ _ | omega | (simp; done) | (simp; omega)))⟩
      case measure => simp [intOf]
    · have q1 : IntKind.i64.wrap ((s.length : Int) + (t.length : Int)) = (s.length : Int) + (t.length : Int) := IntWalk.i64_in _ (by omega)
      have q2 : ¬ (s.length : Int) + (t.length : Int) < 0 := by omega
      go_wp2_with fail
      go_roundw
      case rel => exact ⟨s.length + t.length, 2, .inr (.inr ⟨rfl, rfl⟩), by go_num, by go_num, by (repeat' (first | with_reducible exact Below.refl _ _ | with_reducible assumption | with_reducible refine Below.drew ?_ | with_reducible refine below_drewN ?_ _ | with_reducible refine Below.setCell ?_ ?_ _ | with_reducible refine Below.alloc ?_ ?_ _ | omega | (simp; done) | (simp; omega)))⟩
      case measure => simp [intOf]
    · obtain ⟨n, hn⟩ : ∃ n, n = s.length + t.length := ⟨_, rfl⟩
      rw [← hn]
      have hn2 : n ≤ 100000 := by omega
      clear hn
      go_wp2_with fail
      refine (growB_any n _ hn2).mono ?_
      rintro e w1 ⟨⟨v, rfl, hown⟩, hb1⟩
      have hw1 : Below w.heap.size w w1 := stepH hw0 hb1
      have z1 := hw1.size
      have HO : Hid (Own encR 4 31 w.heap.size w1 v []) := Lib.hid (ownsRow_base hown z0)
      clear hown hb1 a0 a1 z0 hw0
      go_wp2_with fail
      go_loopw [6, 27] (fun v i wr => ∃ (k : Nat) (o : List BI), ((k = 0 ∧ o = []) ∨ (k = 1 ∧ o = s) ∨ (k = 2 ∧ o = s ++ t)) ∧ i = .int .i64 k ∧ Hid (Own encR 4 31 w.heap.size wr v o) ∧ Below w.heap.size w wr) (fun _ i _ => 2 - (intOf i).toNat)
      case atStart => exact ⟨0, [], .inl ⟨rfl, rfl⟩, rfl, HO, hw1⟩
      case round =>
        clear HO
        obtain ⟨k, o, hko, rfl, HO, hw0⟩ := hrel
        have z0 := hw0.size
        have a0 : wr.cell? ⟨g, 0, none⟩ = some (.slice A s.length c) := (hw0.cell (p := ⟨g, 0, none⟩) lg).trans A0.out
        have a1 : wr.cell? ⟨g, 1, none⟩ = some (.slice B t.length d) := (hw0.cell (p := ⟨g, 1, none⟩) lg).trans A1.out
        obtain ⟨A2, c2, rfl, _, _, _⟩ := Own.rows (fun x _ => encR_len x) HO.out
        have ht : w.heap.size ≤ wr.heap.size := z0
        rcases hko with ⟨rfl, rfl⟩ | ⟨rfl, rfl⟩ | ⟨rfl, rfl⟩
        · rw [show ([] : List BI).length = 0 from rfl] at *
          go_wp2_with (at_builtin; go_must (refine wpList_append_anyS rfl (.tmp 31) (.tmp 32) 22 rfl w.heap.size 31 inf0 _ 4 32 Tryd.underlying22 hi jz0 jz1 jz2 rfl (by decide) _ 0 _ rfl HO.out A s.length c (s.flatMap encR) rfl HN1.out (HF1.out _ hw0) HA.out (encR_one s) (by unfold maxLen; omega) (by omega) z0 ?_); intro v' w9 hown9 hgrow9)
          go_roundw
          case rel =>
            refine ⟨1, s, .inr (.inl ⟨rfl, rfl⟩), by go_num, ?_, ?_⟩
            · show Own _ _ _ _ _ _ _; unfold Own; simpa using hown9
            · exact Below.grown hw0 hgrow9 z0 (fun g hg => (HO.out.lt g hg).1)
          case measure => simp [intOf]
        · go_wp2_with (at_builtin; go_must (refine wpList_append_anyS rfl (.tmp 31) (.tmp 32) 22 rfl w.heap.size 31 inf0 _ 4 32 Tryd.underlying22 hi jz0 jz1 jz2 rfl (by decide) _ o.length _ rfl HO.out B t.length d (t.flatMap encR) rfl HN2.out (HF2.out _ hw0) HB.out (encR_one t) (by unfold maxLen; omega) (by omega) z0 ?_); intro v' w9 hown9 hgrow9)
          go_roundw
          case rel =>
            refine ⟨2, o ++ t, .inr (.inr ⟨rfl, rfl⟩), by go_num, ?_, ?_⟩
            · show Own _ _ _ _ _ _ _; unfold Own; rw [List.length_append, List.flatMap_append]; exact hown9
            · exact Below.grown hw0 hgrow9 z0 (fun g hg => (HO.out.lt g hg).1)
          case measure => simp [intOf]
        · have HO2 := HO
          generalize (s ++ t).length = n9 at *
          go_wp2_with fail
          go_ret
          exact ⟨⟨_, rfl, HO2.out⟩, hw0⟩

end Go.Proofs.YtmankldedhgdiaaDoor
