/- Steps that are worked out of others, asked for by Once: the closure's walk and get's, by induction. -/
import Derived.Test.YtodlbfekoohpoaaDoorBootP
import Derived.Test.YtodlbfekoohpoaaDoorInRound
namespace Go.Proofs.YtodlbfekoohpoaaDoor
open Go.RowKit

def encZ (x : Int) : List Value := [.int .i64 x]
/-- the steps in memory, below block B -/
def SumsAt (w : World) (B : Nat) (A : Option Addr) (S : List Sm) : Prop :=
  ∀ k s, S[k]? = some s → ∃ b off F c, A = some ⟨b, off, none⟩ ∧ b < B ∧ w.cell? ⟨b, off + k * 2, none⟩ = some (.int .i64 s.1) ∧ w.cell? ⟨b, off + k * 2 + 1, none⟩ = some (.slice F s.2.length c) ∧ RowAt encZ 1 w B F s.2
theorem SumsAt.below {w w' : World} {B B' : Nat} {A : Option Addr} {S : List Sm} (h : SumsAt w B A S) (hb : Below B' w w') (hB : B ≤ B') : SumsAt w' B A S := fun k s hk => by
  obtain ⟨b, off, F, c, h1, h2, h3, h4, h5⟩ := h k s hk
  exact ⟨b, off, F, c, h1, h2, (hb.cell (p := ⟨b, _, none⟩) (by show b < B'; omega)).trans h3, (hb.cell (p := ⟨b, _, none⟩) (by show b < B'; omega)).trans h4, h5.below hb hB⟩

section
variable {b L P U um : Nat} {E : Nat → Addr} {m : Int} {w w' : World} {v v' : Value} {N : List Nt} {B : List ByteArray} {cl : Bool}
theorem St.onceHas (h : St b E m L P U w v N B cl um) (s : ByteArray) (f : Value) (i : Nat) (y : Nt) (hs : s.size ≤ maxLen) (hi : idxN N s = some i) (hy : N[i]? = some y) :
    Calls Tryd.prog 12 #[.pointer (some ⟨L, 0, none⟩), .string s, f] w fun e w' => e = .returned (.tuple #[.int .i64 y.2, .nilIface]) ∧ St b E m L P U w' v N B cl um ∧ Below w.heap.size w w' :=
  (once_has b L P U um f v N B cl s i y w h.led hs hi hy).mono (fun _ _ q => ⟨q.1, h.below q.2, q.2⟩)
theorem Led.setO {c : Nat} (hl : Led b w L P U v N B cl um) (hf : Far L P U v w c) (o : Nat) (u : Value) : Led b (w.setCell ⟨c, o, none⟩ u) L P U v N B cl um ∧ LKeep [c] L P U v w v (w.setCell ⟨c, o, none⟩ u) := by
  obtain ⟨n, DP, h1, h2, h3⟩ := hl.places
  obtain ⟨DU, h4, h5⟩ := hl.under
  have hs2 : Below 0 w (w.setCell ⟨c, o, none⟩ u) := (Below.refl 0 w).setCell (Nat.zero_le _) _
  exact ⟨⟨hl.hL, hl.hP, hl.hU, hl.ne, (Below.heap_setCell _ _ _ _ (fun e => hf.nL e.symm)).trans hl.box, own_setOther hl.own (fun k e e2 => hf.nv (by rw [← e2]; exact e)), ⟨n, DP, h1, h2.setCell (fun e => hf.nP e.symm) _, h3⟩, ⟨DU, h4.setCell (fun e => hf.nU e.symm) _, h5⟩, hl.len⟩,
    ⟨hs2.os, hs2.tape, hs2.output, hs2.size, fun k hk _ _ _ _ h5 => Below.heap_setCell _ _ _ _ (fun e => h5 (by simp [e])), fun k e => .inl e⟩⟩
theorem Box.setI {k i : Nat} {R : List Int} {t : TypeId} (h : Box L P U v w k (.cells (R.map (Value.int .i64)).toArray t (0, 0))) (x : Int) : Box L P U v (w.setCell ⟨k, i, none⟩ (.int .i64 x)) k (.cells ((R.set i x).map (Value.int .i64)).toArray t (0, 0)) := by
  obtain ⟨⟨h1, h2, h3, h4, h5⟩, h6⟩ := h
  refine ⟨⟨by rw [show (w.setCell ⟨k, i, none⟩ (.int .i64 x)).heap.size = w.heap.size by simp [World.setCell]]; exact h1, h2, h3, h4, h5⟩, ?_⟩
  simp [World.setCell, Array.getElem?_modify, h6, List.map_set]
end

/-- a ledger whose steps are worked out of others, in memory -/
structure GS (S : List Sm) (A : Option Addr) (cS b : Nat) (E : Nat → Addr) (m : Int) (L P U wB rB : Nat) (w : World) (v : Value) (I : List Nat) (R : List Int) (um : Nat) (B : List ByteArray) : Prop where
  st : St b E m L P U w v (ntsS S I) B false um
  wb : Box L P U v w wB (.cells #[.slice A S.length cS, .pointer (some ⟨L, 0, none⟩), .slice (some ⟨rB, 0, none⟩) S.length S.length, .bool false] 47 (0, 0))
  rb : Box L P U v w rB (.cells (R.map (Value.int .i64)).toArray 3 (0, 0))
  sm : SumsAt w b A S
  gd : Gd S I
  ne : wB ≠ rB
  hr : b ≤ rB
  len : R.length = S.length

section
variable {S : List Sm} {A : Option Addr} {cS b : Nat} {E : Nat → Addr} {m : Int} {L P U wB rB : Nat} {w w' : World} {v v' : Value} {I : List Nat} {R R' : List Int} {um um' : Nat} {B B' : List ByteArray}
theorem GS.keep {J : List Nat} (h : GS S A cS b E m L P U wB rB w v I R um B) (hs : St b E m L P U w' v' (ntsS S J) B' false um') (hk : LKeep [rB] L P U v w v' w') (hb : Box L P U v' w' rB (.cells (R'.map (Value.int .i64)).toArray 3 (0, 0))) (hg : Gd S J) (hl : R'.length = R.length) : GS S A cS b E m L P U wB rB w' v' J R' um' B' :=
  ⟨hs, hk.box h.wb (by simp [h.ne]), hb, h.sm.below (h.st.keepB hk (by simp [h.hr])) (Nat.le_refl _), hg, h.ne, h.hr, hl.trans h.len⟩
theorem GS.below (h : GS S A cS b E m L P U wB rB w v I R um B) (hb : Below w.heap.size w w') : GS S A cS b E m L P U wB rB w' v I R um B :=
  h.keep (h.st.below hb) (LKeep.ofBelow hb) (h.rb.below hb) h.gd rfl
end

/-- what a question turns: the steps up to i that came to be noted -/
structure To (L P U rB : Nat) (w : World) (v : Value) (I : List Nat) (R : List Int) (um : Nat) (w' : World) (v' : Value) (J : List Nat) (R' : List Int) (um' i : Nat) : Prop where
  keep : LKeep [rB] L P U v w v' w'
  sub : ∀ j ∈ I, j ∈ J
  le : ∀ j ∈ J, j ∈ I ∨ j ≤ i
  ran : RanTo I J R R'
  um : um' + I.length ≤ um + J.length
theorem To.trans {L P U rB : Nat} {w w1 w2 : World} {v v1 v2 : Value} {I I1 I2 : List Nat} {R R1 R2 : List Int} {um um1 um2 i : Nat} (h : To L P U rB w v I R um w1 v1 I1 R1 um1 i) (k : To L P U rB w1 v1 I1 R1 um1 w2 v2 I2 R2 um2 i) : To L P U rB w v I R um w2 v2 I2 R2 um2 i :=
  ⟨h.keep.trans k.keep, fun j hj => k.sub j (h.sub j hj), fun j hj => by rcases k.le j hj with e | e; exact h.le j e; exact .inr e, h.ran.trans k.ran h.sub k.sub, by have := h.um; have := k.um; omega⟩
theorem To.more {L P U rB : Nat} {w w1 : World} {v v1 : Value} {I I1 : List Nat} {R R1 : List Int} {um um1 i k : Nat} (h : To L P U rB w v I R um w1 v1 I1 R1 um1 i) (hk : i ≤ k) : To L P U rB w v I R um w1 v1 I1 R1 um1 k :=
  ⟨h.keep, h.sub, fun j hj => by rcases h.le j hj with e | e; exact .inl e; exact .inr (Nat.le_trans e hk), h.ran, h.um⟩

/-- what get says of the i-th step -/
def GetAt (S : List Sm) (A : Option Addr) (cS b : Nat) (E : Nat → Addr) (m : Int) (L P U wB rB i : Nat) : Prop :=
  ∀ (x : Int) (w : World) (v : Value) (I : List Nat) (R : List Int) (um : Nat) (B : List ByteArray), x = (i : Int) → i < S.length → GS S A cS b E m L P U wB rB w v I R um B → Ran0 R I i → (∀ j, j ≤ i → inB B (nameS j) = false) → um + i ≤ 1060 + I.length →
    Calls Tryd.prog 18 #[.pointer (some ⟨wB, 0, none⟩), .int .i64 x] w fun e w' => ∃ v' J R' um', e = .returned (.int .i64 (valS S i)) ∧ GS S A cS b E m L P U wB rB w' v' J R' um' B ∧ To L P U rB w v I R um w' v' J R' um' i ∧ i ∈ J

theorem call_get : ∀ args w, (callFunc 42 args).run Tryd.prog w = .ok (.enter 42 args) w := fun _ _ => by simp [go_sem]

/-- the way back: from the difference that the code takes -/
theorem to_wrap {i : Nat} {f y : Int} (hi : i < 60) (hf : -9223372036854775808 ≤ f ∧ f ≤ 9223372036854775807) (hy : IntKind.i64.wrap ((i : Int) - f) = y) : (0 ≤ y ∧ y < (i : Int) → toOf i f = some y.toNat ∧ y.toNat < i ∧ y = (y.toNat : Int)) ∧ (¬ (0 ≤ y ∧ y < (i : Int)) → toOf i f = none) := by
  have e : y = (i : Int) - f ∨ y < 0 ∧ f < 0 := by
    by_cases h : (i : Int) - f ≤ 9223372036854775807
    · left; rw [← hy]; simp [IntKind.wrap, IntKind.signed, IntKind.bits]; omega
    · right
      have : y = (i : Int) - f - 18446744073709551616 := by rw [← hy]; simp [IntKind.wrap, IntKind.signed, IntKind.bits]; omega
      omega
  unfold toOf
  rcases e with rfl | ⟨h1, h2⟩
  · exact ⟨fun h => ⟨by rw [if_pos (by omega)], by omega, by omega⟩, fun h => by rw [if_neg (by omega)]⟩
  · exact ⟨fun h => by omega, fun h => by rw [if_neg (by omega)]⟩

end Go.Proofs.YtodlbfekoohpoaaDoor
