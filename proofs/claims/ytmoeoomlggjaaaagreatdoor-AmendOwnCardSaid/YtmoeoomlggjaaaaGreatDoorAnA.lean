/- Back; an amendment's row; rows laid in a block; item, set, clear; what is printed of a small whole number; Lines: walks. -/
import Derived.Test.YtmoeoomlggjaaaaGreatDoorAmZ
namespace Go.Proofs.YtmoeoomlggjaaaaGreatDoor
open Go.RowKit Go.Maps

theorem am_canon {w : World} {a M N : Nat} {f : Am} (h : AmAt w a M f N) : ∃ l, Canon f l ∧ l.length = N := by
  obtain ⟨D, hown, hr, hz⟩ := h.own
  have hk := RA_keys hown hr (List.Perm.refl _)
  have hc := canon_of hk (fun y c h => (hr.at' y c h).1)
  refine ⟨_, hc, ?_⟩
  have e := congrArg List.length (hc.keys.unique hk)
  rw [List.length_map] at e
  rw [e, List.length_mergeSort, keys_size hown, hz]

set_option maxRecDepth 100000 in
set_option maxHeartbeats 4000000 in
theorem back_any (a M N : Nat) (g : Am) (l : List It) (A : Option Addr) (cp : Nat) (E : Nat → Addr) (m : Int) (w : World) (h : AmAt w a M g N) (hN : N ≤ 50000) (hl : RowAt itL 3 w w.heap.size A l) (hI : ∀ x ∈ l, InI x) (hE : Env LA E w) (hm : w.cell? ⟨4, 0, none⟩ = some (.int .i64 m)) (hA : A = none → cp = 0) (hok : okA g) (hf : faultI l = none) (h5 : l.length + N + l.length ≤ 500) :
    Calls Tryz.prog 18 #[.pointer (some ⟨a, 0, none⟩), .slice A l.length cp] w fun e w' => (∃ b Mb Nb, e = .returned (.tuple #[.pointer (some ⟨b, 0, none⟩), .nilIface]) ∧ AmAt w' b Mb (diffA (app (inF l) g) (inF l)) Nb ∧ Nb ≤ 500 ∧ w.heap.size ≤ b ∧ w.heap.size ≤ Mb) ∧ Below w.heap.size w w' := by
  have HAP := Lib.hid (apply_any a M N g l A cp E m w h hN hl hI hE hm hA hok)
  have HS := Lib.hid (okS_app (okS_in hf) hok)
  have HF := Lib.hid hf
  obtain ⟨cl, hcl, hln⟩ := am_canon h
  have HSUP : Hid (∀ y, (app (inF l) g y).isSome = true → y ∈ l.map itb ++ cl.map nmb) := Lib.hid (app_sup (fun y hy => (inF_some y).1 hy) (fun y hy => (hcl.keys.mem y).2 hy))
  have HDF := Lib.hid (fun (W : World) (hW : Below w.heap.size w W) (l1 : List It) A1 cp1 h1 h2 h3 h4 h5 => diff_any l1 l A1 A cp1 cp E m W h1 ((hl.below hW (Nat.le_refl _)).more hW.size) h2 hI (hE.below hW) (cell_at hm hW) h3 hA h4 hf h5)
  clear h hl hI hE hm hA hok hf hcl
  go_enter Tryz.func18, Tryz.ntmps18
  go_wp2_with fail
  refine HAP.out.mono ?_
  rintro e w1 ⟨h, hb1⟩
  rcases h with ⟨x, h1, _⟩ | ⟨_, ⟨rs, hc, h⟩⟩
  · rw [HF.out] at h1; cases h1
  have hlen : rs.length ≤ l.length + N := by
    have := hc.len HSUP.out
    simp [hln] at this
    exact this
  rcases h with ⟨h6, v, rfl, hown⟩ | ⟨h6, _⟩
  · obtain ⟨A1, c1, rfl, hr1, hn1, _⟩ := own_line (fun x _ => itL_len x) hown
    have HC := Lib.hid hc
    have HD := Lib.hid (HDF.out w1 hb1 rs A1 c1 hr1 (hc.inI HS.out) hn1 (hc.fault HS.out h6) (by omega))
    have e := hc.inF
    rw [e] at HD
    clear hown hr1 hn1 hc HAP HDF e
    go_wp2_with fail
    refine HD.out.mono ?_
    rintro e w2 ⟨⟨b, Mb, Nb, rfl, hab, hnb, hb, hmb⟩, hb2⟩
    have HAB := Lib.hid hab
    have hw2 := stepH hb1 hb2
    have z1 := hb1.size
    clear hab
    go_wp2_with fail
    go_ret2
    exact ⟨⟨b, Mb, Nb, rfl, HAB.out, hnb, by omega, by omega⟩, hw2⟩
  · omega

/-- a row in a block of its own -/
theorem row_blk {α : Type} {enc : α → List Value} {size : Nat} {w : World} {g : Nat} {cs : Array Value} {t : TypeId} {z : Nat × Nat} (l : List α) (hs : ∀ x, (enc x).length = size) (h : w.heap[g]? = some (.cells cs t z)) (hc : cs.toList = l.flatMap enc) : RowAt enc size w w.heap.size (some ⟨g, 0, none⟩) l := by
  intro k x hx
  refine ⟨g, 0, rfl, (Array.getElem?_eq_some_iff.1 h).1, fun j u hj => ?_⟩
  have hf := flat_at (fun x _ => hs x) hx hj
  rw [Nat.zero_add, cell_of_row w g _ cs t z h, ← Array.getElem?_toList, hc]
  exact hf

set_option maxRecDepth 100000 in
theorem item_any (s : ByteArray) (n : Int) (w : World) : Calls Tryz.prog 22 #[.string s, .int .i64 n] w fun e w' => e = .returned (itV ⟨s, n, 1⟩) ∧ Below w.heap.size w w' := by
  go_enter Tryz.func22, Tryz.ntmps22
  go_wp2_with fail
  have R := Lib.hid (blk_new (w := w) (o := .cells #[.string s, .int .i64 n, .int .i64 1] 53) rfl)
  have cR := cellH R
  exact bodyPost_ret (v := itV ⟨s, n, 1⟩) (by simp [results, Tryz.results22, go_sem, cR, itV]) rfl ⟨rfl, by (repeat' (first | with_reducible exact Below.refl _ _ | with_reducible assumption | with_reducible refine Below.drew ?_ | with_reducible refine below_drewN ?_ _ | with_reducible refine Below.setCell ?_ ?_ _ | with_reducible refine Below.alloc ?_ ?_ _ | omega | (simp; done) | (simp; omega)))⟩
set_option maxRecDepth 100000 in
theorem set_any (s : ByteArray) (n : Int) (w : World) : Calls Tryz.prog 20 #[.string s, .int .i64 n] w fun e w' => e = .returned (chV ⟨s, false, n, 1⟩) ∧ Below w.heap.size w w' := by
  go_enter Tryz.func20, Tryz.ntmps20
  go_wp2_with fail
  have R := Lib.hid (blk_new (w := w) (o := .cells #[.string s, .bool false, .int .i64 n, .int .i64 1] 41) rfl)
  have cR := cellH R
  exact bodyPost_ret (v := chV ⟨s, false, n, 1⟩) (by simp [results, Tryz.results20, go_sem, cR, chV]) rfl ⟨rfl, by (repeat' (first | with_reducible exact Below.refl _ _ | with_reducible assumption | with_reducible refine Below.drew ?_ | with_reducible refine below_drewN ?_ _ | with_reducible refine Below.setCell ?_ ?_ _ | with_reducible refine Below.alloc ?_ ?_ _ | omega | (simp; done) | (simp; omega)))⟩
set_option maxRecDepth 100000 in
theorem clear_any (s : ByteArray) (w : World) : Calls Tryz.prog 32 #[.string s] w fun e w' => e = .returned (chV ⟨s, true, 0, 0⟩) ∧ Below w.heap.size w w' := by
  go_enter Tryz.func32, Tryz.ntmps32
  go_wp2_with fail
  have R := Lib.hid (blk_new (w := w) (o := .cells #[.string s, .bool true, .int .i64 0, .int .i64 0] 41) rfl)
  have cR := cellH R
  exact bodyPost_ret (v := chV ⟨s, true, 0, 0⟩) (by simp [results, Tryz.results32, go_sem, cR, chV]) rfl ⟨rfl, by (repeat' (first | with_reducible exact Below.refl _ _ | with_reducible assumption | with_reducible refine Below.drew ?_ | with_reducible refine below_drewN ?_ _ | with_reducible refine Below.setCell ?_ ?_ _ | with_reducible refine Below.alloc ?_ ?_ _ | omega | (simp; done) | (simp; omega)))⟩

set_option maxRecDepth 100000 in
set_option maxHeartbeats 1000000 in
theorem print_small (i : Nat) (b8 : UInt8) (hi : i < 10) (w : World) (h8 : UInt8.ofNat (48 + i) = b8) : Calls Tryz.prog 73 #[.agg #[.int .i64 i, .int .i64 1]] w fun e w' => e = .returned (.string (⟨#[]⟩ ++ ⟨#[b8]⟩)) ∧ Below w.heap.size w w' := by
  have hv : validB (i : Int) 1 = true := by unfold validB; simp; omega
  have HV := Lib.hid (fun W => valid_is (i : Int) 1 true W hv (by omega) (by omega) (by omega) (by omega))
  have HI := Lib.hid (fun W => Tryz.strconv_Itoa_small i (by omega) W)
  rw [Lib.decDigits_one hi, h8] at HI
  clear hv h8
  go_enter Tryz.func73, Tryz.ntmps73
  go_wp2_with fail
  refine (HV.out _).mono ?_
  rintro e w1 ⟨rfl, hb1⟩
  have B1 := keepH hb1 (g := w.heap.size) (blk_new rfl)
  have cB := cellH B1
  have hw1 : Below w.heap.size w w1 := stepH (by (repeat' (first | with_reducible exact Below.refl _ _ | with_reducible assumption | with_reducible refine Below.drew ?_ | with_reducible refine below_drewN ?_ _ | with_reducible refine Below.setCell ?_ ?_ _ | with_reducible refine Below.alloc ?_ ?_ _ | omega | (simp; done) | (simp; omega)))) hb1
  go_wp2_with fail
  refine (HI.out _).mono ?_
  rintro e w2 ⟨rfl, rfl⟩
  go_wp2_with fail
  have x0 : w2.drew.cell? ⟨w.heap.size, 0, none⟩ = some (.int .i64 i) := cB 0
  have x1 : w2.drew.cell? ⟨w.heap.size, 1, none⟩ = some (.int .i64 1) := cB 1
  go_quiet (fail)
  go_wp2_with fail
  go_ret
  exact ⟨rfl, by (repeat' (first | with_reducible exact Below.refl _ _ | with_reducible assumption | with_reducible refine Below.drew ?_ | with_reducible refine below_drewN ?_ _ | with_reducible refine Below.setCell ?_ ?_ _ | with_reducible refine Below.alloc ?_ ?_ _ | omega | (simp; done) | (simp; omega)))⟩
end Go.Proofs.YtmoeoomlggjaaaaGreatDoor
