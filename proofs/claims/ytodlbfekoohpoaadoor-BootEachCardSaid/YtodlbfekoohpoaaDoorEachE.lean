/- BootEach's walk: words. -/
import Derived.Test.YtodlbfekoohpoaaDoorEachD
import Derived.Deep.DeepCutAuto
import Derived.Deep.RegionHeld3
namespace Go.Proofs.YtodlbfekoohpoaaDoor
open Go.RowKit Go.Shelf
attribute [local go_sem] Oper.semAt_some

theorem funNil5 (f : Fn) (cap : Array Value) (w : World) : (binOp .eql 60 (.func f #[] cap) .nilFunc).run Tryd.prog w = .ok (.bool false) w := by kernel_rfl

/-- what holds behind some rounds -/
def EaI (N : List Nt) (Q : Nat → Prop) (ib : Nat) (w7 : World) (pre : List (Nt × Nat)) (W : World) : Prop := W.heap[ib]? = some (.cells #[.int .i64 pre.length] 3 (0, 0)) ∧ Below ib w7 W ∧ pre = N.zipIdx.take pre.length ∧ Q pre.length
/-- .. where the loop is left -/
def EaX (N : List Nt) (ib : Nat) (w7 : World) (stop : Int) (c : Code) (pre : List (Nt × Nat)) (W : World) : Prop := ¬ pre <+: N.zipIdx ∨ ((pre.length : Int) = stop ∧ c = .exit 2 ∧ EaI N (fun k => 0 < k) ib w7 pre W)
theorem EaI_own {N : List Nt} {Q : Nat → Prop} {ib B : Nat} {w7 : World} (h1 : ib ≤ w7.heap.size) (h2 : w7.heap.size ≤ B) : OwnFrom B (EaI N Q ib w7) := fun _ W W' row hs hg hr =>
  ⟨ownBlk hs.1 hg hr, Below.grown hs.2.1 hg (by have := hs.2.1.size; omega) (fun k e => by have := (hr k e).1; omega), hs.2.2⟩
theorem EaX_own {N : List Nt} {ib B : Nat} {w7 : World} {stop : Int} (c : Code) (h1 : ib ≤ w7.heap.size) (h2 : w7.heap.size ≤ B) : OwnFrom B (EaX N ib w7 stop c) := fun s W W' row hs hg hr => by
  rcases hs with h | ⟨h3, h4, h5⟩
  · exact .inl h
  · exact .inr ⟨h3, h4, EaI_own h1 h2 s W W' row h5 hg hr⟩
theorem prefix_nt {r pre : List (Nt × Nat)} {x p : Nt × Nat} (h : (pre ++ [x]) <+: r) (hp : r[pre.length]? = some p) : x = p := by
  obtain ⟨t, rfl⟩ := h
  rw [List.append_assoc, List.getElem?_append_right (Nat.le_refl _), Nat.sub_self] at hp
  exact Option.some.inj hp
theorem bytes_ne {s t : ByteArray} (h : s ≠ t) : (s.toList != t.toList) = true := by
  rw [bne_iff_ne]
  intro e
  rw [ByteArray.toList_eq, ByteArray.toList_eq] at e
  exact h (ByteArray.ext (Array.ext' e))

/-- a block that is none of the two ledgers' -/
def FarK (L P U r : Nat) (v vr : Value) (k : Nat) : Prop := k ≠ L ∧ k ≠ P ∧ k ≠ U ∧ v.ownBlock ≠ some k ∧ k ≠ r ∧ vr.ownBlock ≠ some k
/-- what the law's variables hold ahead of a round -/
structure RF (b : Nat) (E : Nat → Addr) (m : Int) (L P U r pb : Nat) (rv v vr : Value) (N : List Nt) (um sS qb Bx rb : Nat) (stop rd : Int) (W : World) : Prop where
  st : W.heap[sS]? = some (.cells #[.int .i64 stop] 3 (0, 0))
  rs : W.heap[sS + 1]? = some (.cells #[.bool false] 4 (0, 0))
  qb : W.heap[qb]? = some (.cells #[.pointer (some ⟨pb, 0, none⟩)] 56 (0, 0))
  bx : W.heap[Bx]? = some (.cells #[.pointer (some ⟨L, 0, none⟩)] 24 (0, 0))
  rb : W.heap[rb]? = some (.cells #[.int .i64 rd] 3 (0, 0))
  pl : Pl b E m L P U r pb rv W v vr N um

section
variable {b L P U r pb um um' sS qb Bx rb rb' : Nat} {E : Nat → Addr} {m stop rd rd' : Int} {rv v v' vr vr' : Value} {N N' : List Nt} {W W1 W2 : World}
theorem Pl.below (h : Pl b E m L P U r pb rv W v vr N um) (hb : Below W.heap.size W W1) : Pl b E m L P U r pb rv W1 v vr N um := ⟨h.pr.below hb, h.bx.below hb, h.ne, h.hpb⟩
theorem RF.below (h : RF b E m L P U r pb rv v vr N um sS qb Bx rb stop rd W) {n : Nat} (hn : W.heap.size = n) (hb : Below n W W1) : RF b E m L P U r pb rv v vr N um sS qb Bx rb stop rd W1 := by
  subst hn
  have k : ∀ {g o}, W.heap[g]? = some o → W1.heap[g]? = some o := fun e => (hb.block _ (Array.getElem?_eq_some_iff.1 e).1).trans e
  exact ⟨k h.st, k h.rs, k h.qb, k h.bx, k h.rb, h.pl.below hb⟩
theorem RF.round (h : RF b E m L P U r pb rv v vr N um sS qb Bx rb stop rd W) (hb : Below W.heap.size W W1) (hr : W1.heap[rb']? = some (.cells #[.int .i64 rd'] 3 (0, 0))) : RF b E m L P U r pb rv v vr N um sS qb Bx rb' stop rd' W1 := by
  have h1 := h.below rfl hb
  exact ⟨h1.st, h1.rs, h1.qb, h1.bx, hr, h1.pl⟩
theorem Pl.far {w2 : World} (h : Pl b E m L P U r pb rv w2 v vr N um) : ∀ k, (k < b ∨ w2.heap.size ≤ k) → FarK L P U r v vr k := fun k hk => by
  have hl := h.pr.st.led
  obtain ⟨_, _, _, h2, _⟩ := hl.places
  obtain ⟨_, h3, _⟩ := hl.under
  have l1 := hl.lt
  have l2 := h2.lt
  have l3 := h3.lt
  have l4 := hl.hL
  have l5 := hl.hP
  have l6 := hl.hU
  have l7 := h.pr.rl.hr
  have l8 := (Array.getElem?_eq_some_iff.1 h.pr.rl.box).1
  exact ⟨by omega, by omega, by omega, fun e => by have := hl.own.lt _ e; omega, by omega, fun e => by have := h.pr.rl.own.lt _ e; omega⟩
/-- both ledgers noted -/
theorem RF.noted (h : RF b E m L P U r pb rv v vr N um sS qb Bx rb stop rd W) (hk : LKeep [] L P U v W v' W1) (hk2 : LKeep [] r r r vr W1 vr' W2) (hp : Pr b E m L P U r W2 v' vr' N' um')
    (f1 : FarK L P U r v vr sS) (f2 : FarK L P U r v vr (sS + 1)) (f3 : FarK L P U r v vr qb) (f4 : FarK L P U r v vr Bx) (f5 : FarK L P U r v vr rb) : RF b E m L P U r pb rv v' vr' N' um' sS qb Bx rb stop rd W2 := by
  have same : ∀ {k o}, FarK L P U r v vr k → W.heap[k]? = some o → W2.heap[k]? = some o := fun f e => by
    have hl := (Array.getElem?_eq_some_iff.1 e).1
    exact ((hk2.block _ (Nat.lt_of_lt_of_le hl hk.size) f.2.2.2.2.1 f.2.2.2.2.1 f.2.2.2.2.1 f.2.2.2.2.2 (by simp)).trans (hk.block _ hl f.1 f.2.1 f.2.2.1 f.2.2.2.1 (by simp))).trans e
  have fb := h.pl.bx.1
  have fp : FarK L P U r v vr pb := ⟨fb.nL, fb.nP, fb.nU, fb.nv, h.pl.ne.1, h.pl.ne.2⟩
  have hb := same fp h.pl.bx.2
  have hbx1 := hk.box h.pl.bx (by simp)
  refine ⟨same f1 h.st, same f2 h.rs, same f3 h.qb, same f4 h.bx, same f5 h.rb, hp, ⟨⟨(Array.getElem?_eq_some_iff.1 hb).1, fb.nL, fb.nP, fb.nU, hbx1.1.nv⟩, hb⟩, ⟨h.pl.ne.1, fun e => ?_⟩, h.pl.hpb⟩
  rcases hk2.row pb e with e2 | e2
  · exact h.pl.ne.2 e2
  · have := hbx1.1.lt; omega
theorem RL.row {A : Option Addr} {n c : Nat} (h : RL b W r (.slice A n c) N) : RowAt encN 2 W W.heap.size A N := by
  obtain ⟨A2, c2, hv, _, _, hr⟩ := Own.rows (fun x _ => encN_len x) h.own
  injection hv with h1
  rw [h1]
  exact hr

/-- one note more, if there is room -/
def moreN (N : List Nt) : List Nt := if N.length < 200 then N ++ [(oneM, 1)] else N
theorem St.noteOne (h : St b E m L P U W v N [] false um) (hi : idxN N oneM = none) :
    Calls Tryd.prog 11 #[.pointer (some ⟨L, 0, none⟩), .string oneM, .int .i64 1] W fun e w' => (∃ ev, e = .returned ev) ∧ ∃ v', St b E m L P U w' v' (moreN N) [] false um ∧ LKeep [] L P U v W v' w' := by
  by_cases hl : N.length < 200
  · have hm : mayE (nameB oneM) N [] false oneM 1 = none := by
      simp [mayE, hi, oneM_ok.1, roomE, inB]
      omega
    refine (h.noteOk oneM 1 oneM_ok.2 hm).mono fun e w' q => ?_
    obtain ⟨he, v', hs, hk⟩ := q
    exact ⟨⟨_, he⟩, v', by unfold moreN; rw [if_pos hl]; exact hs, hk⟩
  · have hm : mayE (nameB oneM) N [] false oneM 1 = some 4 := by
      have : 200 ≤ N.length := by omega
      simp [mayE, hi, oneM_ok.1, roomE, inB, this]
    refine (h.noteNo oneM 1 4 oneM_ok.2 hm).mono fun e w' q => ?_
    exact ⟨⟨_, q.1⟩, v, by unfold moreN; rw [if_neg hl]; exact q.2.1, LKeep.ofBelow q.2.2⟩
theorem RL.noteOne (h : RL b W r vr N) (hi : idxN N oneM = none) (hb : b ≤ W.heap.size) :
    Calls Tryd.prog 27 #[.pointer (some ⟨r, 0, none⟩), .string oneM, .int .i64 1] W fun e w' => (∃ ev, e = .returned ev) ∧ ∃ vr', RL b w' r vr' (moreN N) ∧ LKeep [] r r r vr W vr' w' := by
  by_cases hl : N.length < 200
  · refine (noteR_ok b r vr N oneM 1 W h hi oneM_ok.1 hl hb).mono fun e w' q => ?_
    obtain ⟨he, v', hs, hk⟩ := q
    exact ⟨⟨_, he⟩, v', by unfold moreN; rw [if_pos hl]; exact hs, hk⟩
  · refine (noteR_full b r vr N oneM 1 W h hi oneM_ok.1 hl).mono fun e w' q => ?_
    exact ⟨⟨_, q.1⟩, vr, by unfold moreN; rw [if_neg hl]; exact h.below q.2, LKeep.ofBelow q.2⟩
end

end Go.Proofs.YtodlbfekoohpoaaDoor
