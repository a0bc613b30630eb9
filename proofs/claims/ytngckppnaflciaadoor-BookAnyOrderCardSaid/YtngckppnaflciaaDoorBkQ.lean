/- Provisions, texts in memory: lists of them; SameProvs, SameTexts at lists that read alike: walks. -/
import Derived.Test.YtngckppnaflciaaDoorBkJ
namespace Go.Proofs.YtngckppnaflciaaDoor
open Go.RowKit

/-- provisions in memory -/
def ProvsAt (w : World) (B : Nat) (A : Option Addr) (l : List Pv) : Prop :=
  ∀ k p, l[k]? = some p → ∃ b off F c, A = some ⟨b, off, none⟩ ∧ b < B ∧ (∀ j u, (pvL p F c)[j]? = some u → w.cell? ⟨b, off + k * 15 + j, none⟩ = some u) ∧ PvAt w B p F c
theorem ProvsAt.below {w w' : World} {B B' : Nat} {A : Option Addr} {l : List Pv} (h : ProvsAt w B A l) (hb : Below B' w w') (hB : B ≤ B') : ProvsAt w' B A l := fun k p hk => by
  obtain ⟨b, off, F, c, h1, h2, h3, h4⟩ := h k p hk
  exact ⟨b, off, F, c, h1, h2, fun j u hj => (hb.cell (p := ⟨b, _, none⟩) (by show b < B'; omega)).trans (h3 j u hj), h4.below hb hB⟩
theorem ProvsAt.more {w : World} {B B' : Nat} {A : Option Addr} {l : List Pv} (h : ProvsAt w B A l) (hB : B ≤ B') : ProvsAt w B' A l := fun k p hk => by
  obtain ⟨b, off, F, c, h1, h2, h3, h4⟩ := h k p hk
  exact ⟨b, off, F, c, h1, by omega, h3, h4.more hB⟩
theorem ProvsAt.step {w w' : World} {A : Option Addr} {l : List Pv} (h : ProvsAt w w.heap.size A l) (hb : Below w.heap.size w w') : ProvsAt w' w'.heap.size A l := (h.below hb (Nat.le_refl _)).more hb.size

theorem psame_is (p : Pv) (A A' : Option Addr) (c c' : Nat) (w : World) (h1 : PvAt w w.heap.size p A c) (h2 : PvAt w w.heap.size p A' c') (hl : p.scale.length ≤ 1000000) :
    Calls Tryd.prog 23 #[pvV p A c, pvV p A' c'] w fun e w' => e = .returned (.bool true) ∧ Below w.heap.size w w' :=
  prov_same p.id p.key p.s0 p.s1 p.ena p.rank p.rep p.kind p.n p.d A p.scale.length c p.rule p.mode p.un p.ud p.id p.key p.s0 p.s1 p.ena p.rank p.rep p.kind p.n p.d A' p.scale.length c' p.rule p.mode p.un p.ud true true w
    (fun W h => value_same p.kind p.n p.d A p.scale.length c p.rule p.mode p.un p.ud p.kind p.n p.d A' p.scale.length c' p.rule p.mode p.un p.ud true true W
      (fun W2 k => sameBr_any p.scale A A' c c' W2 ((h1.step h).step k).row ((h2.step h).step k).row hl) (by unfold valB same2; simp)) (by unfold provB same2; simp)

set_option maxRecDepth 100000 in
set_option maxHeartbeats 8000000 in
theorem sameProvs_any (l : List Pv) (A B : Option Addr) (c d : Nat) (w : World) (hl : ProvsAt w w.heap.size A l) (hm : ProvsAt w w.heap.size B l) (h1 : l.length ≤ 1000000) (hs : ∀ p ∈ l, p.scale.length ≤ 1000000) :
    Calls Tryd.prog 20 #[.slice A l.length c, .slice B l.length d] w fun e w' => e = .returned (.bool true) ∧ Below w.heap.size w w' := by
  have HL := Lib.hid hl
  have HM := Lib.hid hm
  have HS := Lib.hid hs
  clear hl hm hs
  have hne : (((l.length : Int)) != (l.length : Int)) = false := by simp
  go_enter Tryd.func20, Tryd.ntmps20
  go_wp2_with fail
  go_loopw [5] (fun i wr => ∃ k : Nat, k ≤ l.length ∧ i = .int .i64 k ∧ Below w.heap.size w wr) (fun i _ => l.length - (intOf i).toNat)
  case atStart => exact ⟨0, Nat.zero_le _, rfl, by (repeat' (first | with_reducible exact Below.refl _ _ | with_reducible assumption | with_reducible refine Below.drew ?_ | with_reducible refine below_drewN ?_ _ | with_reducible refine Below.setCell ?_ ?_ _ | with_reducible refine Below.alloc ?_ ?_ _ | omega | (simp; done) | (simp; omega)))⟩
  case round =>
    obtain ⟨k, hk, rfl, hw0⟩ := hrel
    have z0 := hw0.size
    by_cases hlt : k < l.length
    · obtain ⟨p, hx⟩ : ∃ x, l[k]? = some x := ⟨l[k], List.getElem?_eq_getElem hlt⟩
      have hps := HS.out p (List.mem_of_getElem? hx)
      obtain ⟨g, off, F, cF, rfl, hg, ca, pa⟩ := (HL.out.step hw0) k p hx
      obtain ⟨g2, off2, F2, cF2, rfl, hg2, cb, pb⟩ := (HM.out.step hw0) k p hx
      have a0 : wr.cell? ⟨g, off + k * 15, none⟩ = some (.string p.id) := ca 0 _ rfl
      have a1 : wr.cell? ⟨g, off + k * 15 + 1, none⟩ = some (.string p.key) := ca 1 _ rfl
      have a2 : wr.cell? ⟨g, off + k * 15 + 2, none⟩ = some (.int .i64 p.s0) := ca 2 _ rfl
      have a3 : wr.cell? ⟨g, off + k * 15 + 3, none⟩ = some (.int .i64 p.s1) := ca 3 _ rfl
      have a4 : wr.cell? ⟨g, off + k * 15 + 4, none⟩ = some (.int .i64 p.ena) := ca 4 _ rfl
      have a5 : wr.cell? ⟨g, off + k * 15 + 5, none⟩ = some (.int .i64 p.rank) := ca 5 _ rfl
      have a6 : wr.cell? ⟨g, off + k * 15 + 6, none⟩ = some (.string p.rep) := ca 6 _ rfl
      have a7 : wr.cell? ⟨g, off + k * 15 + 7, none⟩ = some (.int .i64 p.kind) := ca 7 _ rfl
      have a8 : wr.cell? ⟨g, off + k * 15 + 8, none⟩ = some (.int .i64 p.n) := ca 8 _ rfl
      have a9 : wr.cell? ⟨g, off + k * 15 + 9, none⟩ = some (.int .i64 p.d) := ca 9 _ rfl
      have a10 : wr.cell? ⟨g, off + k * 15 + 10, none⟩ = some (.slice F p.scale.length cF) := ca 10 _ rfl
      have a11 : wr.cell? ⟨g, off + k * 15 + 11, none⟩ = some (.string p.rule) := ca 11 _ rfl
      have a12 : wr.cell? ⟨g, off + k * 15 + 12, none⟩ = some (.int .i64 p.mode) := ca 12 _ rfl
      have a13 : wr.cell? ⟨g, off + k * 15 + 13, none⟩ = some (.int .i64 p.un) := ca 13 _ rfl
      have a14 : wr.cell? ⟨g, off + k * 15 + 14, none⟩ = some (.int .i64 p.ud) := ca 14 _ rfl
      have b0 : wr.cell? ⟨g2, off2 + k * 15, none⟩ = some (.string p.id) := cb 0 _ rfl
      have b1 : wr.cell? ⟨g2, off2 + k * 15 + 1, none⟩ = some (.string p.key) := cb 1 _ rfl
      have b2 : wr.cell? ⟨g2, off2 + k * 15 + 2, none⟩ = some (.int .i64 p.s0) := cb 2 _ rfl
      have b3 : wr.cell? ⟨g2, off2 + k * 15 + 3, none⟩ = some (.int .i64 p.s1) := cb 3 _ rfl
      have b4 : wr.cell? ⟨g2, off2 + k * 15 + 4, none⟩ = some (.int .i64 p.ena) := cb 4 _ rfl
      have b5 : wr.cell? ⟨g2, off2 + k * 15 + 5, none⟩ = some (.int .i64 p.rank) := cb 5 _ rfl
      have b6 : wr.cell? ⟨g2, off2 + k * 15 + 6, none⟩ = some (.string p.rep) := cb 6 _ rfl
      have b7 : wr.cell? ⟨g2, off2 + k * 15 + 7, none⟩ = some (.int .i64 p.kind) := cb 7 _ rfl
      have b8 : wr.cell? ⟨g2, off2 + k * 15 + 8, none⟩ = some (.int .i64 p.n) := cb 8 _ rfl
      have b9 : wr.cell? ⟨g2, off2 + k * 15 + 9, none⟩ = some (.int .i64 p.d) := cb 9 _ rfl
      have b10 : wr.cell? ⟨g2, off2 + k * 15 + 10, none⟩ = some (.slice F2 p.scale.length cF2) := cb 10 _ rfl
      have b11 : wr.cell? ⟨g2, off2 + k * 15 + 11, none⟩ = some (.string p.rule) := cb 11 _ rfl
      have b12 : wr.cell? ⟨g2, off2 + k * 15 + 12, none⟩ = some (.int .i64 p.mode) := cb 12 _ rfl
      have b13 : wr.cell? ⟨g2, off2 + k * 15 + 13, none⟩ = some (.int .i64 p.un) := cb 13 _ rfl
      have b14 : wr.cell? ⟨g2, off2 + k * 15 + 14, none⟩ = some (.int .i64 p.ud) := cb 14 _ rfl
      clear ca cb hx
      have HQ := Lib.hid (fun (W : World) (hb : Below wr.heap.size wr W) => psame_is p F F2 cF cF2 W (pa.step hb) (pb.step hb) hps)
      clear pa pb
      have i1 : (k : Int) < (l.length : Int) := by omega
      go_wp2_with fail
      go_region_held3 (fun w' => w'.cell? ⟨g, off + k * 15, none⟩ = some (.string p.id) ∧ w'.cell? ⟨g, off + k * 15 + 1, none⟩ = some (.string p.key) ∧ w'.cell? ⟨g, off + k * 15 + 2, none⟩ = some (.int .i64 p.s0) ∧ w'.cell? ⟨g, off + k * 15 + 3, none⟩ = some (.int .i64 p.s1) ∧ w'.cell? ⟨g, off + k * 15 + 4, none⟩ = some (.int .i64 p.ena) ∧ w'.cell? ⟨g, off + k * 15 + 5, none⟩ = some (.int .i64 p.rank) ∧ w'.cell? ⟨g, off + k * 15 + 6, none⟩ = some (.string p.rep) ∧ w'.cell? ⟨g, off + k * 15 + 7, none⟩ = some (.int .i64 p.kind) ∧ w'.cell? ⟨g, off + k * 15 + 8, none⟩ = some (.int .i64 p.n) ∧ w'.cell? ⟨g, off + k * 15 + 9, none⟩ = some (.int .i64 p.d) ∧ w'.cell? ⟨g, off + k * 15 + 10, none⟩ = some (.slice F p.scale.length cF) ∧ w'.cell? ⟨g, off + k * 15 + 11, none⟩ = some (.string p.rule) ∧ w'.cell? ⟨g, off + k * 15 + 12, none⟩ = some (.int .i64 p.mode) ∧ w'.cell? ⟨g, off + k * 15 + 13, none⟩ = some (.int .i64 p.un) ∧ w'.cell? ⟨g, off + k * 15 + 14, none⟩ = some (.int .i64 p.ud) ∧ w'.cell? ⟨g2, off2 + k * 15, none⟩ = some (.string p.id) ∧ w'.cell? ⟨g2, off2 + k * 15 + 1, none⟩ = some (.string p.key) ∧ w'.cell? ⟨g2, off2 + k * 15 + 2, none⟩ = some (.int .i64 p.s0) ∧ w'.cell? ⟨g2, off2 + k * 15 + 3, none⟩ = some (.int .i64 p.s1) ∧ w'.cell? ⟨g2, off2 + k * 15 + 4, none⟩ = some (.int .i64 p.ena) ∧ w'.cell? ⟨g2, off2 + k * 15 + 5, none⟩ = some (.int .i64 p.rank) ∧ w'.cell? ⟨g2, off2 + k * 15 + 6, none⟩ = some (.string p.rep) ∧ w'.cell? ⟨g2, off2 + k * 15 + 7, none⟩ = some (.int .i64 p.kind) ∧ w'.cell? ⟨g2, off2 + k * 15 + 8, none⟩ = some (.int .i64 p.n) ∧ w'.cell? ⟨g2, off2 + k * 15 + 9, none⟩ = some (.int .i64 p.d) ∧ w'.cell? ⟨g2, off2 + k * 15 + 10, none⟩ = some (.slice F2 p.scale.length cF2) ∧ w'.cell? ⟨g2, off2 + k * 15 + 11, none⟩ = some (.string p.rule) ∧ w'.cell? ⟨g2, off2 + k * 15 + 12, none⟩ = some (.int .i64 p.mode) ∧ w'.cell? ⟨g2, off2 + k * 15 + 13, none⟩ = some (.int .i64 p.un) ∧ w'.cell? ⟨g2, off2 + k * 15 + 14, none⟩ = some (.int .i64 p.ud)) (first | with_reducible exact ⟨a0, a1, a2, a3, a4, a5, a6, a7, a8, a9, a10, a11, a12, a13, a14, b0, b1, b2, b3, b4, b5, b6, b7, b8, b9, b10, b11, b12, b13, b14⟩ | go_keep)
        (first
          | (go_at_call 23; refine (HQ.out _ (by (repeat' (first | with_reducible exact Below.refl _ _ | with_reducible assumption | with_reducible refine Below.drew ?_ | with_reducible refine below_drewN ?_ _ | with_reducible refine Below.setCell ?_ ?_ _ | with_reducible refine Below.alloc ?_ ?_ _ | omega | (simp; done) | (simp; omega))))).mono ?_; rintro e w9 ⟨rfl, hb9⟩; have hw9 : Below w.heap.size w w9 := stepH (by (repeat' (first | with_reducible exact Below.refl _ _ | with_reducible assumption | with_reducible refine Below.drew ?_ | with_reducible refine below_drewN ?_ _ | with_reducible refine Below.setCell ?_ ?_ _ | with_reducible refine Below.alloc ?_ ?_ _ | omega | (simp; done) | (simp; omega)))) hb9; have a0 := cellOf hb9 (by first | exact a0 | exact cell_drew a0); have a1 := cellOf hb9 (by first | exact a1 | exact cell_drew a1); have a2 := cellOf hb9 (by first | exact a2 | exact cell_drew a2); have a3 := cellOf hb9 (by first | exact a3 | exact cell_drew a3); have a4 := cellOf hb9 (by first | exact a4 | exact cell_drew a4); have a5 := cellOf hb9 (by first | exact a5 | exact cell_drew a5); have a6 := cellOf hb9 (by first | exact a6 | exact cell_drew a6); have a7 := cellOf hb9 (by first | exact a7 | exact cell_drew a7); have a8 := cellOf hb9 (by first | exact a8 | exact cell_drew a8); have a9 := cellOf hb9 (by first | exact a9 | exact cell_drew a9); have a10 := cellOf hb9 (by first | exact a10 | exact cell_drew a10); have a11 := cellOf hb9 (by first | exact a11 | exact cell_drew a11); have a12 := cellOf hb9 (by first | exact a12 | exact cell_drew a12); have a13 := cellOf hb9 (by first | exact a13 | exact cell_drew a13); have a14 := cellOf hb9 (by first | exact a14 | exact cell_drew a14); have b0 := cellOf hb9 (by first | exact b0 | exact cell_drew b0); have b1 := cellOf hb9 (by first | exact b1 | exact cell_drew b1); have b2 := cellOf hb9 (by first | exact b2 | exact cell_drew b2); have b3 := cellOf hb9 (by first | exact b3 | exact cell_drew b3); have b4 := cellOf hb9 (by first | exact b4 | exact cell_drew b4); have b5 := cellOf hb9 (by first | exact b5 | exact cell_drew b5); have b6 := cellOf hb9 (by first | exact b6 | exact cell_drew b6); have b7 := cellOf hb9 (by first | exact b7 | exact cell_drew b7); have b8 := cellOf hb9 (by first | exact b8 | exact cell_drew b8); have b9 := cellOf hb9 (by first | exact b9 | exact cell_drew b9); have b10 := cellOf hb9 (by first | exact b10 | exact cell_drew b10); have b11 := cellOf hb9 (by first | exact b11 | exact cell_drew b11); have b12 := cellOf hb9 (by first | exact b12 | exact cell_drew b12); have b13 := cellOf hb9 (by first | exact b13 | exact cell_drew b13); have b14 := cellOf hb9 (by first | exact b14 | exact cell_drew b14)))
      go_wp2_with fail
      go_roundw
      case rel => exact ⟨k + 1, by omega, by go_num, by (repeat' (first | with_reducible exact Below.refl _ _ | with_reducible assumption | with_reducible refine Below.drew ?_ | with_reducible refine below_drewN ?_ _ | with_reducible refine Below.setCell ?_ ?_ _ | with_reducible refine Below.alloc ?_ ?_ _ | omega | (simp; done) | (simp; omega)))⟩
      case measure => simp [intOf]; omega
    · obtain rfl : k = l.length := by omega
      go_wp2_with fail
      go_ret
      exact ⟨rfl, by (repeat' (first | with_reducible exact Below.refl _ _ | with_reducible assumption | with_reducible refine Below.drew ?_ | with_reducible refine below_drewN ?_ _ | with_reducible refine Below.setCell ?_ ?_ _ | with_reducible refine Below.alloc ?_ ?_ _ | omega | (simp; done) | (simp; omega)))⟩

/-- a text's cell -/
def encS (x : ByteArray) : List Value := [.string x]
theorem encS_len (x : ByteArray) : (encS x).length = 1 := rfl
theorem cell1 {w : World} {B : Nat} {A : Option Addr} {s : List ByteArray} {k : Nat} {b : ByteArray} (h : RowAt encS 1 w B A s) (hk : s[k]? = some b) : ∃ g off, A = some ⟨g, off, none⟩ ∧ g < B ∧ w.cell? ⟨g, off + k, none⟩ = some (.string b) := by
  obtain ⟨g, off, rfl, hg, hc⟩ := h k b hk
  exact ⟨g, off, rfl, hg, by have := hc 0 _ rfl; simpa using this⟩

set_option maxRecDepth 100000 in
set_option maxHeartbeats 8000000 in
theorem sameTexts_any (l : List ByteArray) (A B : Option Addr) (c d : Nat) (w : World) (hl : RowAt encS 1 w w.heap.size A l) (hm : RowAt encS 1 w w.heap.size B l) (h1 : l.length ≤ 1000000) :
    Calls Tryd.prog 12 #[.slice A l.length c, .slice B l.length d] w fun e w' => e = .returned (.bool true) ∧ Below w.heap.size w w' := by
  have HL := Lib.hid hl
  have HM := Lib.hid hm
  clear hl hm
  have hne : (((l.length : Int)) != (l.length : Int)) = false := by simp
  go_enter Tryd.func12, Tryd.ntmps12
  go_wp2_with fail
  go_loopw [5] (fun i wr => ∃ k : Nat, k ≤ l.length ∧ i = .int .i64 k ∧ Below w.heap.size w wr) (fun i _ => l.length - (intOf i).toNat)
  case atStart => exact ⟨0, Nat.zero_le _, rfl, by (repeat' (first | with_reducible exact Below.refl _ _ | with_reducible assumption | with_reducible refine Below.drew ?_ | with_reducible refine below_drewN ?_ _ | with_reducible refine Below.setCell ?_ ?_ _ | with_reducible refine Below.alloc ?_ ?_ _ | omega | (simp; done) | (simp; omega)))⟩
  case round =>
    obtain ⟨k, hk, rfl, hw0⟩ := hrel
    have z0 := hw0.size
    by_cases hlt : k < l.length
    · obtain ⟨p, hx⟩ : ∃ x, l[k]? = some x := ⟨l[k], List.getElem?_eq_getElem hlt⟩
      obtain ⟨g, off, rfl, hg, a0⟩ := cell1 (HL.out.below hw0 (Nat.le_refl _)) hx
      obtain ⟨g2, off2, rfl, hg2, b0⟩ := cell1 (HM.out.below hw0 (Nat.le_refl _)) hx
      clear hx
      have hq : (p.toList == p.toList) = true := by simp
      have i1 : (k : Int) < (l.length : Int) := by omega
      go_wp2_with fail
      go_region_held3 (fun w' => w'.cell? ⟨g, off + k, none⟩ = some (.string p) ∧ w'.cell? ⟨g2, off2 + k, none⟩ = some (.string p)) (first | with_reducible exact ⟨a0, b0⟩ | go_keep)
        (fail)
      go_wp2_with fail
      go_roundw
      case rel => exact ⟨k + 1, by omega, by go_num, by (repeat' (first | with_reducible exact Below.refl _ _ | with_reducible assumption | with_reducible refine Below.drew ?_ | with_reducible refine below_drewN ?_ _ | with_reducible refine Below.setCell ?_ ?_ _ | with_reducible refine Below.alloc ?_ ?_ _ | omega | (simp; done) | (simp; omega)))⟩
      case measure => simp [intOf]; omega
    · obtain rfl : k = l.length := by omega
      go_wp2_with fail
      go_ret
      exact ⟨rfl, by (repeat' (first | with_reducible exact Below.refl _ _ | with_reducible assumption | with_reducible refine Below.drew ?_ | with_reducible refine below_drewN ?_ _ | with_reducible refine Below.setCell ?_ ?_ _ | with_reducible refine Below.alloc ?_ ?_ _ | omega | (simp; done) | (simp; omega)))⟩
end Go.Proofs.YtngckppnaflciaaDoor
