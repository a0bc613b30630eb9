/- Two ledgers side by side, asked in any order; asked's and behind's walks. -/
import Derived.Test.YtodlbfekoohpoaaDoorBootS
namespace Go.Proofs.YtodlbfekoohpoaaDoor
open Go.RowKit

section
variable {b L P U um : Nat} {w w' : World} {v : Value} {N : List Nt} {B : List ByteArray} {cl : Bool}
/-- a ledger reads as it did where its blocks are as they were -/
theorem Led.same (h : Led b w L P U v N B cl um) (hk : ∀ k, (k = L ∨ k = P ∨ k = U ∨ v.ownBlock = some k) → w'.heap[k]? = w.heap[k]?) : Led b w' L P U v N B cl um where
  hL := h.hL
  hP := h.hP
  hU := h.hU
  ne := h.ne
  box := (hk L (.inl rfl)).trans h.box
  own := by
    refine ⟨h.own.1, ?_⟩
    rcases h.own.2 with hn | ⟨g, cap, cur, hv, hb, hgg, rest⟩
    · exact .inl hn
    · exact .inr ⟨g, cap, cur, hv, hb, (hk g (.inr (.inr (.inr (by rw [hv]; rfl))))).trans hgg, rest⟩
  places := by
    obtain ⟨n, D, h1, ⟨es, clock, hb, F, hs, hD⟩, h3⟩ := h.places
    exact ⟨n, D, h1, ⟨es, clock, (hk P (.inr (.inl rfl))).trans hb, F, hs, hD⟩, h3⟩
  under := by
    obtain ⟨D, ⟨es, clock, hb, F, hs, hD⟩, h3⟩ := h.under
    exact ⟨D, ⟨es, clock, (hk U (.inr (.inr (.inl rfl)))).trans hb, F, hs, hD⟩, h3⟩
  len := h.len
end

/-- a ledger whose steps are worked out of others, no step under way -/
structure TS (S : List Sm) (A : Option Addr) (cS b : Nat) (E : Nat → Addr) (m : Int) (L P U wB rB : Nat) (w : World) (v : Value) (I : List Nat) (R : List Int) (um : Nat) : Prop where
  gs : GS S A cS b E m L P U wB rB w v I R um []
  ran : ∀ j, j < S.length → R[j]? = some (if j ∈ I then 1 else 0)
  um : um ≤ 1000 + I.length
/-- the blocks that belong to it -/
def Blk (L P U wB rB : Nat) (v : Value) (k : Nat) : Prop := (k = L ∨ k = P ∨ k = U ∨ v.ownBlock = some k) ∨ k = wB ∨ k = rB

section
variable {S : List Sm} {A : Option Addr} {cS b : Nat} {E : Nat → Addr} {m : Int} {L P U wB rB L2 P2 U2 wB2 rB2 : Nat} {w w' : World} {v v' v2 : Value} {I I2 : List Nat} {R R2 : List Int} {um um2 : Nat}
theorem TS.below (h : TS S A cS b E m L P U wB rB w v I R um) (hb : Below w.heap.size w w') : TS S A cS b E m L P U wB rB w' v I R um := ⟨h.gs.below hb, h.ran, h.um⟩
theorem TS.lt (h : TS S A cS b E m L P U wB rB w v I R um) {k : Nat} (hk : Blk L P U wB rB v k) : k < w.heap.size ∧ b ≤ k ∨ k = wB ∧ k < w.heap.size := by
  have hl := h.gs.st.led
  obtain ⟨_, _, _, h2, _⟩ := hl.places
  obtain ⟨_, h3, _⟩ := hl.under
  rcases hk with (rfl | rfl | rfl | e) | rfl | rfl
  · exact .inl ⟨hl.lt, hl.hL⟩
  · exact .inl ⟨h2.lt, hl.hP⟩
  · exact .inl ⟨h3.lt, hl.hU⟩
  · exact .inl ⟨(hl.own.lt _ e).2, (hl.own.lt _ e).1⟩
  · exact .inr ⟨rfl, h.gs.wb.1.lt⟩
  · exact .inl ⟨h.gs.rb.1.lt, h.gs.hr⟩
theorem TS.size (h : TS S A cS b E m L P U wB rB w v I R um) {k : Nat} (hk : Blk L P U wB rB v k) : k < w.heap.size := by
  rcases h.lt hk with h | h
  · exact h.1
  · exact h.2
/-- the other ledger's turn -/
theorem TS.other (h : TS S A cS b E m L P U wB rB w v I R um) (hd : ∀ k, Blk L P U wB rB v k → ¬ Blk L2 P2 U2 wB2 rB2 v2 k) (h2 : TS S A cS b E m L2 P2 U2 wB2 rB2 w v2 I2 R2 um2) (hk : LKeep [rB2] L2 P2 U2 v2 w v' w') :
    TS S A cS b E m L P U wB rB w' v I R um ∧ (∀ k, Blk L P U wB rB v k → ¬ Blk L2 P2 U2 wB2 rB2 v' k) ∧ (∀ k, Blk L2 P2 U2 wB2 rB2 v' k → ¬ Blk L P U wB rB v k) := by
  have hs : ∀ k, Blk L P U wB rB v k → w'.heap[k]? = w.heap[k]? := fun k hb => hk.block k (h.size hb) (fun e => hd k hb (.inl (.inl e))) (fun e => hd k hb (.inl (.inr (.inl e)))) (fun e => hd k hb (.inl (.inr (.inr (.inl e))))) (fun e => hd k hb (.inl (.inr (.inr (.inr e))))) (fun e => hd k hb (.inr (.inr (List.mem_singleton.1 e))))
  have hbb := h2.gs.st.keepB hk (by simp [h2.gs.hr])
  have hst : St b E m L P U w' v (ntsS S I) [] false um := ⟨h.gs.st.led.same (fun k e => hs k (.inl e)), env_keep h.gs.st.env hbb h.gs.st.low.1, (hbb.cell h.gs.st.low.2).trans h.gs.st.max, Nat.le_trans h.gs.st.hb hbb.size, h.gs.st.low⟩
  have hx : ∀ {k o}, Blk L P U wB rB v k → Box L P U v w k o → Box L P U v w' k o := fun hb hx => ⟨⟨Nat.lt_of_lt_of_le hx.1.lt hk.size, hx.1.nL, hx.1.nP, hx.1.nU, hx.1.nv⟩, (hs _ hb).trans hx.2⟩
  have hn : ∀ k, Blk L P U wB rB v k → ¬ Blk L2 P2 U2 wB2 rB2 v' k := fun k hb e => by
    rcases e with (e | e | e | e) | e | e
    · exact hd k hb (.inl (.inl e))
    · exact hd k hb (.inl (.inr (.inl e)))
    · exact hd k hb (.inl (.inr (.inr (.inl e))))
    · rcases hk.row k e with e2 | e2
      · exact hd k hb (.inl (.inr (.inr (.inr e2))))
      · have := h.size hb; omega
    · exact hd k hb (.inr (.inl e))
    · exact hd k hb (.inr (.inr e))
  exact ⟨⟨⟨hst, hx (.inr (.inl rfl)) h.gs.wb, hx (.inr (.inr rfl)) h.gs.rb, h.gs.sm.below hbb (Nat.le_refl _), h.gs.gd, h.gs.ne, h.gs.hr, h.gs.len⟩, h.ran, h.um⟩, hn, fun k h1 h2 => hn k h2 h1⟩
end

section
variable (S : List Sm) (hM : Mild S) (hF : ∀ s ∈ S, ∀ f ∈ s.2, -9223372036854775808 ≤ f ∧ f ≤ 9223372036854775807) (hlen : S.length ≤ 60)
include hM hF hlen
theorem get_top {A : Option Addr} {cS b : Nat} {E : Nat → Addr} {m : Int} {L P U wB rB : Nat} {w : World} {v : Value} {I : List Nat} {R : List Int} {um : Nat} (h : TS S A cS b E m L P U wB rB w v I R um) (i : Nat) (x : Int) (hx : x = (i : Int)) (hi : i < S.length) :
    Calls Tryd.prog 18 #[.pointer (some ⟨wB, 0, none⟩), .int .i64 x] w fun e w' => e = .returned (.int .i64 (valS S i)) ∧ ∃ v' J R' um', TS S A cS b E m L P U wB rB w' v' J R' um' ∧ LKeep [rB] L P U v w v' w' ∧ (∀ j ∈ I, j ∈ J) ∧ i ∈ J :=
  (get_any S hM hF hlen A cS b E m L P U wB rB i x w v I R um [] hx hi h.gs (fun j hj hn => by rw [h.ran j (by omega), if_neg hn]) (fun _ _ => rfl) (by have := h.um; omega)).mono (fun e w' q => by
    obtain ⟨v', J, R', um', he, hg, ht, hm⟩ := q
    refine ⟨he, v', J, R', um', ⟨hg, fun j hj => ?_, by have := ht.um; have := h.um; omega⟩, ht.keep, ht.sub, hm⟩
    by_cases h1 : j ∈ I
    · rw [ht.ran.old j (.inl h1), h.ran j hj, if_pos h1, if_pos (ht.sub j h1)]
    · by_cases h2 : j ∈ J
      · rw [ht.ran.new j h2 h1 (by rw [h.gs.len]; exact hj), if_pos h2]
      · rw [ht.ran.old j (.inr h2), h.ran j hj, if_neg h1, if_neg h2])

set_option maxRecDepth 10000 in
set_option maxHeartbeats 8000000 in
theorem asked_any (A : Option Addr) (cS b : Nat) (E : Nat → Addr) (m : Int) (L P U wB rB : Nat) (w : World) (v : Value) (I : List Nat) (R : List Int) (um : Nat) (h : TS S A cS b E m L P U wB rB w v I R um) (l : List Int) (Al : Option Addr) (cl : Nat) (hl : RowAt encZ 1 w b Al l) (hll : l.length ≤ maxLen) :
    Calls Tryd.prog 17 #[.pointer (some ⟨wB, 0, none⟩), .slice Al l.length cl] w fun e w' => e = .returned (.tuple #[]) ∧ ∃ v' J R' um', TS S A cS b E m L P U wB rB w' v' J R' um' ∧ LKeep [rB] L P U v w v' w' := by
  have HT := Lib.hid h
  have HL := Lib.hid hl
  have HM := Lib.hid hM
  have HF := Lib.hid hF
  clear h hl hM hF
  go_enter Tryd.func17, Tryd.ntmps17
  go_wp2_with fail
  go_loopw [4] (fun kv wr => ∃ (k : Nat) (v1 : Value) (J : List Nat) (R1 : List Int) (um1 : Nat), k ≤ 200 ∧ k ≤ l.length ∧ kv = .int .i64 k ∧ Hid (TS S A cS b E m L P U wB rB wr v1 J R1 um1 ∧ LKeep [rB] L P U v w v1 wr)) (fun kv _ => 200 - (intOf kv).toNat)
  case atStart => exact ⟨0, v, I, R, um, by omega, by omega, rfl, HT.out, LKeep.refl _ _ _ _ _ _⟩
  case round =>
    obtain ⟨k, v1, J, R1, um1, hk4, hkl, rfl, hH⟩ := hrel
    have k1 : wr.cell? ⟨wB, 0, none⟩ = some (.slice A S.length cS) := hH.out.1.gs.wb.cell 0
    by_cases hlt : k < l.length
    · by_cases hl4 : k < 200
      · obtain ⟨f, hf⟩ : ∃ f, l[k]? = some f := ⟨l[k], List.getElem?_eq_getElem hlt⟩
        obtain ⟨fb, fo, rfl, hfb, hcf⟩ := (HL.out.below (HT.out.gs.st.keepB hH.out.2 (by simp [HT.out.gs.hr])) (Nat.le_refl _)) k f hf
        have j2 : wr.cell? ⟨fb, fo + k, none⟩ = some (.int .i64 f) := by have := hcf 0 _ rfl; simpa using this
        have l1 : (k : Int) < (l.length : Int) := by omega
        have l2 : (k : Int) < 200 := by omega
        clear hf hcf hfb
        by_cases f1 : 0 ≤ f
        · go_wp2_with fail
          go_region_held3 (fun w' => w'.cell? ⟨wB, 0, none⟩ = some (.slice A S.length cS) ∧ w'.cell? ⟨fb, fo + k, none⟩ = some (.int .i64 f)) (first | with_reducible exact ⟨k1, j2⟩ | go_keep) (fail)
          by_cases f2 : f < (S.length : Int)
          · have HC := Lib.hid (fun W (hW : Below wr.heap.size wr W) => get_top S HM.out HF.out hlen (hH.out.1.below hW) f.toNat f (by omega) (by omega))
            go_wp2_with fail
            refine (HC.out _ (by (repeat' (first | with_reducible exact Below.refl _ _ | with_reducible assumption | with_reducible refine Below.drew ?_ | with_reducible refine below_drewN ?_ _ | with_reducible refine Below.setCell ?_ ?_ _ | with_reducible refine Below.alloc ?_ ?_ _ | omega | (simp; done) | (simp; omega))))).mono ?_
            rintro e w2 ⟨rfl, v2, J2, R2, um2, t2, p2, _, _⟩
            have T2 := Lib.hid t2
            have HB2 : Hid (LKeep [rB] L P U v w v2 w2) := (hH.out.2.trans (LKeep.ofBelow (by (repeat' (first | with_reducible exact Below.refl _ _ | with_reducible assumption | with_reducible refine Below.drew ?_ | with_reducible refine below_drewN ?_ _ | with_reducible refine Below.setCell ?_ ?_ _ | with_reducible refine Below.alloc ?_ ?_ _ | omega | (simp; done) | (simp; omega)))))).trans p2
            clear t2 p2
            go_wp2_with fail
            go_roundw
            case rel => exact ⟨k + 1, v2, J2, R2, um2, by omega, by omega, by go_num, T2.out.below (by (repeat' (first | with_reducible exact Below.refl _ _ | with_reducible assumption | with_reducible refine Below.drew ?_ | with_reducible refine below_drewN ?_ _ | with_reducible refine Below.setCell ?_ ?_ _ | with_reducible refine Below.alloc ?_ ?_ _ | omega | (simp; done) | (simp; omega)))), HB2.out.trans (LKeep.ofBelow (by (repeat' (first | with_reducible exact Below.refl _ _ | with_reducible assumption | with_reducible refine Below.drew ?_ | with_reducible refine below_drewN ?_ _ | with_reducible refine Below.setCell ?_ ?_ _ | with_reducible refine Below.alloc ?_ ?_ _ | omega | (simp; done) | (simp; omega)))))⟩
            case measure => simp [intOf]; omega
          · go_wp2_with fail
            go_roundw
            case rel => exact ⟨k + 1, v1, J, R1, um1, by omega, by omega, by go_num, hH.out.1.below (by (repeat' (first | with_reducible exact Below.refl _ _ | with_reducible assumption | with_reducible refine Below.drew ?_ | with_reducible refine below_drewN ?_ _ | with_reducible refine Below.setCell ?_ ?_ _ | with_reducible refine Below.alloc ?_ ?_ _ | omega | (simp; done) | (simp; omega)))), hH.out.2.trans (LKeep.ofBelow (by (repeat' (first | with_reducible exact Below.refl _ _ | with_reducible assumption | with_reducible refine Below.drew ?_ | with_reducible refine below_drewN ?_ _ | with_reducible refine Below.setCell ?_ ?_ _ | with_reducible refine Below.alloc ?_ ?_ _ | omega | (simp; done) | (simp; omega)))))⟩
            case measure => simp [intOf]; omega
        · have f3 : decide ((0 : Int) ≤ f) = false := decide_eq_false f1
          go_wp2_with fail
          go_quiet (fail)
          go_wp2_with fail
          go_roundw
          case rel => exact ⟨k + 1, v1, J, R1, um1, by omega, by omega, by go_num, hH.out.1.below (by (repeat' (first | with_reducible exact Below.refl _ _ | with_reducible assumption | with_reducible refine Below.drew ?_ | with_reducible refine below_drewN ?_ _ | with_reducible refine Below.setCell ?_ ?_ _ | with_reducible refine Below.alloc ?_ ?_ _ | omega | (simp; done) | (simp; omega)))), hH.out.2.trans (LKeep.ofBelow (by (repeat' (first | with_reducible exact Below.refl _ _ | with_reducible assumption | with_reducible refine Below.drew ?_ | with_reducible refine below_drewN ?_ _ | with_reducible refine Below.setCell ?_ ?_ _ | with_reducible refine Below.alloc ?_ ?_ _ | omega | (simp; done) | (simp; omega)))))⟩
          case measure => simp [intOf]; omega
      · have l1 : (k : Int) < (l.length : Int) := by omega
        have l2 : ¬ (k : Int) < 200 := by omega
        go_wp2_with fail
        go_end0
        exact ⟨rfl, v1, ⟨J, R1, um1, hH.out.1.below (by (repeat' (first | with_reducible exact Below.refl _ _ | with_reducible assumption | with_reducible refine Below.drew ?_ | with_reducible refine below_drewN ?_ _ | with_reducible refine Below.setCell ?_ ?_ _ | with_reducible refine Below.alloc ?_ ?_ _ | omega | (simp; done) | (simp; omega))))⟩, hH.out.2.trans (LKeep.ofBelow (by (repeat' (first | with_reducible exact Below.refl _ _ | with_reducible assumption | with_reducible refine Below.drew ?_ | with_reducible refine below_drewN ?_ _ | with_reducible refine Below.setCell ?_ ?_ _ | with_reducible refine Below.alloc ?_ ?_ _ | omega | (simp; done) | (simp; omega)))))⟩
    · have l1 : ¬ (k : Int) < (l.length : Int) := by omega
      go_wp2_with fail
      go_end0
      exact ⟨rfl, v1, ⟨J, R1, um1, hH.out.1.below (by (repeat' (first | with_reducible exact Below.refl _ _ | with_reducible assumption | with_reducible refine Below.drew ?_ | with_reducible refine below_drewN ?_ _ | with_reducible refine Below.setCell ?_ ?_ _ | with_reducible refine Below.alloc ?_ ?_ _ | omega | (simp; done) | (simp; omega))))⟩, hH.out.2.trans (LKeep.ofBelow (by (repeat' (first | with_reducible exact Below.refl _ _ | with_reducible assumption | with_reducible refine Below.drew ?_ | with_reducible refine below_drewN ?_ _ | with_reducible refine Below.setCell ?_ ?_ _ | with_reducible refine Below.alloc ?_ ?_ _ | omega | (simp; done) | (simp; omega)))))⟩
end

end Go.Proofs.YtodlbfekoohpoaaDoor
