/- The program's ledger and the document's, side by side; the names of many notes; begins' walk. -/
import Derived.Test.YtodlbfekoohpoaaDoorEachA
import Derived.Test.YtodlbfekoohpoaaDoorKeptA
import Derived.Laws.MakeOwn
import Derived.Deep.DeepCutAuto
namespace Go.Proofs.YtodlbfekoohpoaaDoor
open Go.RowKit

/-- the name of the i-th note, its first k letters -/
def stepZ (i : Nat) : Nat → ByteArray
  | 0 => ⟨#[122, 46, 110]⟩
  | k + 1 => stepZ i k ++ ⟨#[UInt8.ofNat (97 + i / 16 ^ k % 16)]⟩
def nameZ (i : Nat) : ByteArray := stepZ i 3
def oneM : ByteArray := ⟨#[111, 110, 101, 46, 109, 111, 114, 101]⟩
theorem nameZ_all : ((List.range 200).all fun i => nameB (nameZ i) && (decide ((nameZ i).size ≤ 6) && !decide (nameZ i = oneM))) = true := by kernel_rfl
theorem nameZ_ok {i : Nat} (h : i < 200) : nameB (nameZ i) = true ∧ (nameZ i).size ≤ maxLen ∧ nameZ i ≠ oneM := by
  have := List.all_eq_true.1 nameZ_all i (List.mem_range.2 h)
  simp only [Bool.and_eq_true, decide_eq_true_eq, Bool.not_eq_true', decide_eq_false_iff_not] at this
  exact ⟨this.1, by unfold maxLen; omega, this.2.2⟩
theorem nameZ_data (i : Nat) : (nameZ i).data.toList = [122, 46, 110, UInt8.ofNat (97 + i / 1 % 16), UInt8.ofNat (97 + i / 16 % 16), UInt8.ofNat (97 + i / 256 % 16)] := by
  unfold nameZ stepZ stepZ stepZ stepZ
  simp
theorem byte_inj {a c : Nat} (ha : a < 16) (hc : c < 16) (h : UInt8.ofNat (97 + a) = UInt8.ofNat (97 + c)) : a = c := by
  have := congrArg UInt8.toNat h
  simp only [UInt8.toNat_ofNat'] at this
  omega
theorem nameZ_inj {i j : Nat} (hi : i < 200) (hj : j < 200) (h : nameZ i = nameZ j) : i = j := by
  have := congrArg (fun s : ByteArray => s.data.toList) h
  simp only [nameZ_data, List.cons.injEq, and_true, true_and] at this
  obtain ⟨h0, h1, _⟩ := this
  have a0 := byte_inj (by omega) (by omega) h0
  have a1 := byte_inj (by omega) (by omega) h1
  omega
/-- the first k notes -/
def zN (k : Nat) : List Nt := (List.range k).map fun i => (nameZ i, (i : Int))
theorem zN_len (k : Nat) : (zN k).length = k := by unfold zN; rw [List.length_map, List.length_range]
theorem zN_succ (k : Nat) : zN (k + 1) = zN k ++ [(nameZ k, (k : Int))] := by unfold zN; rw [List.range_succ, List.map_append]; rfl
theorem idx_none {N : List Nt} {s : ByteArray} (h : ∀ x ∈ N, x.1 ≠ s) : idxN N s = none := by
  induction N with
  | nil => rfl
  | cons x r ih =>
    unfold idxN
    rw [if_neg (h x (List.mem_cons_self ..)), ih (fun y hy => h y (List.mem_cons_of_mem _ hy))]
    rfl
theorem zN_free {k : Nat} (h : k < 200) : idxN (zN k) (nameZ k) = none := idx_none (fun x hx e => by
  obtain ⟨i, hi, rfl⟩ := List.mem_map.1 hx
  have hi := List.mem_range.1 hi
  have := nameZ_inj (i := i) (j := k) (by omega) h e
  omega)
theorem zN_one {k : Nat} (h : k ≤ 200) : idxN (zN k) oneM = none := idx_none (fun x hx e => by
  obtain ⟨i, hi, rfl⟩ := List.mem_map.1 hx
  exact (nameZ_ok (i := i) (by have := List.mem_range.1 hi; omega)).2.2 e)
theorem oneM_ok : nameB oneM = true ∧ oneM.size ≤ maxLen := ⟨by kernel_rfl, by decide⟩

theorem Led.same2 {b L P U um : Nat} {w w' : World} {v : Value} {N : List Nt} {B : List ByteArray} {cl : Bool} (h : Led b w L P U v N B cl um) (hk : ∀ k, (k = L ∨ k = P ∨ k = U ∨ v.ownBlock = some k) → w'.heap[k]? = w.heap[k]?) : Led b w' L P U v N B cl um where
  hL := h.hL
  hP := h.hP
  hU := h.hU
  ne := h.ne
  box := (hk L (.inl rfl)).trans h.box
  own := by
    refine ⟨h.own.1, ?_⟩
    rcases h.own.2 with hn | ⟨g, cap, cur, hv, hb, hgg, rest⟩
    · exact .inl hn
    · exact .inr ⟨g, cap, cur, hv, hb, (hk g (.inr (.inr (.inr (by rw [hv]; rfl))))).trans hgg, rest⟩
  places := by
    obtain ⟨n, D, h1, ⟨es, clock, hb, F, hs, hD⟩, h3⟩ := h.places
    exact ⟨n, D, h1, ⟨es, clock, (hk P (.inr (.inl rfl))).trans hb, F, hs, hD⟩, h3⟩
  under := by
    obtain ⟨D, ⟨es, clock, hb, F, hs, hD⟩, h3⟩ := h.under
    exact ⟨D, ⟨es, clock, (hk U (.inr (.inr (.inl rfl)))).trans hb, F, hs, hD⟩, h3⟩
  len := h.len
/-- what a play's two ledgers are -/
structure Pr (b : Nat) (E : Nat → Addr) (m : Int) (L P U r : Nat) (w : World) (v vr : Value) (N : List Nt) (um : Nat) : Prop where
  st : St b E m L P U w v N [] false um
  rl : RL b w r vr N
  ap : ∀ k, (k = r ∨ vr.ownBlock = some k) → Far L P U v w k
theorem LKeep.far {X : List Nat} {L P U k : Nat} {v v' : Value} {w w' : World} (h : LKeep X L P U v w v' w') (ha : Far L P U v w k) : Far L P U v' w' k :=
  ⟨by have := h.size; have := ha.lt; omega, ha.nL, ha.nP, ha.nU, fun e => by rcases h.row k e with e | e; exact ha.nv e; have := ha.lt; omega⟩
section
variable {b L P U r um um' : Nat} {E : Nat → Addr} {m : Int} {w w' : World} {v v' vr vr' : Value} {N N' : List Nt}
theorem Pr.below (h : Pr b E m L P U r w v vr N um) (hb : Below w.heap.size w w') : Pr b E m L P U r w' v vr N um := ⟨h.st.below hb, h.rl.below hb, fun k hk => (LKeep.ofBelow (X := []) hb).far (h.ap k hk)⟩
/-- the program notes, then the document does -/
theorem Pr.left (h : Pr b E m L P U r w v vr N um) (hs : St b E m L P U w' v' N' [] false um') (hk : LKeep [] L P U v w v' w') : RL b w' r vr N ∧ ∀ k, (k = r ∨ vr.ownBlock = some k) → Far L P U v' w' k :=
  ⟨h.rl.same (fun k e => hk.block k (h.ap k e).lt (h.ap k e).nL (h.ap k e).nP (h.ap k e).nU (h.ap k e).nv (by simp)), fun k e => hk.far (h.ap k e)⟩
theorem Pr.right (hs : St b E m L P U w v N' [] false um) (hr : RL b w r vr N) (hap : ∀ k, (k = r ∨ vr.ownBlock = some k) → Far L P U v w k) (hr' : RL b w' r vr' N') (hk : LKeep [] r r r vr w vr' w') : Pr b E m L P U r w' v vr' N' um := by
  have hne : ∀ k, (k = L ∨ k = P ∨ k = U ∨ v.ownBlock = some k) → k ≠ r ∧ vr.ownBlock ≠ some k := fun k hk0 => by
    have f0 := hap r (.inl rfl)
    refine ⟨fun e => ?_, fun e => ?_⟩
    · subst e
      rcases hk0 with e | e | e | e
      · exact f0.nL e
      · exact f0.nP e
      · exact f0.nU e
      · exact f0.nv e
    · have f1 := hap k (.inr e)
      rcases hk0 with e | e | e | e
      · exact f1.nL e
      · exact f1.nP e
      · exact f1.nU e
      · exact f1.nv e
  obtain ⟨_, _, _, h2, _⟩ := hs.led.places
  obtain ⟨_, h3, _⟩ := hs.led.under
  have hlt : ∀ k, (k = L ∨ k = P ∨ k = U ∨ v.ownBlock = some k) → k < w.heap.size := fun k hk => by
    rcases hk with e | e | e | e
    · rw [e]; exact hs.led.lt
    · rw [e]; exact h2.lt
    · rw [e]; exact h3.lt
    · exact (hs.led.own.lt _ e).2
  have hbb : Below b w w' := hk.below hr.hr hr.hr hr.hr (fun k e => (hr.own.lt k e).1) (by simp) hs.hb
  refine ⟨⟨hs.led.same2 (fun k e => hk.block k (hlt k e) (hne k e).1 (hne k e).1 (hne k e).1 (hne k e).2 (by simp)), env_keep hs.env hbb hs.low.1, (hbb.cell hs.low.2).trans hs.max, Nat.le_trans hs.hb hbb.size, hs.low⟩, hr', fun k e => ?_⟩
  have hz := hk.size
  rcases e with rfl | e
  · have f0 := hap k (.inl rfl)
    exact ⟨by have := f0.lt; omega, f0.nL, f0.nP, f0.nU, f0.nv⟩
  · rcases hk.row k e with e2 | e2
    · have f1 := hap k (.inr e2)
      exact ⟨by have := f1.lt; omega, f1.nL, f1.nP, f1.nU, f1.nv⟩
    · exact ⟨(hr'.own.lt _ e).2, fun e => by have := hlt k (.inl e); omega, fun e => by have := hlt k (.inr (.inl e)); omega, fun e => by have := hlt k (.inr (.inr (.inl e))); omega, fun e => by have := hlt k (.inr (.inr (.inr e))); omega⟩
end

end Go.Proofs.YtodlbfekoohpoaaDoor
