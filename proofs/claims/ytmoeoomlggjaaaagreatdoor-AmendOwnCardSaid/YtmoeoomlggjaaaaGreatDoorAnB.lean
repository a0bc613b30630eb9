/- Texts compared; a change's line; Lines: walks. -/
import Derived.Test.YtmoeoomlggjaaaaGreatDoorAnA
namespace Go.Proofs.YtmoeoomlggjaaaaGreatDoor
open Go.RowKit Go.Maps

/-- a text's cell -/
def encS (x : ByteArray) : List Value := [.string x]
theorem encS_len (x : ByteArray) : (encS x).length = 1 := rfl
theorem cell1 {w : World} {B : Nat} {A : Option Addr} {s : List ByteArray} {k : Nat} {b : ByteArray} (h : RowAt encS 1 w B A s) (hk : s[k]? = some b) : ∃ g off, A = some ⟨g, off, none⟩ ∧ g < B ∧ w.cell? ⟨g, off + k, none⟩ = some (.string b) := by
  obtain ⟨g, off, rfl, hg, hc⟩ := h k b hk
  exact ⟨g, off, rfl, hg, by have := hc 0 _ rfl; simpa using this⟩

set_option maxRecDepth 100000 in
set_option maxHeartbeats 8000000 in
theorem sameTexts_any (l : List ByteArray) (A B : Option Addr) (c d : Nat) (w : World) (hl : RowAt encS 1 w w.heap.size A l) (hm : RowAt encS 1 w w.heap.size B l) (h1 : l.length ≤ 1000000) :
    Calls Tryz.prog 25 #[.slice A l.length c, .slice B l.length d] w fun e w' => e = .returned (.bool true) ∧ Below w.heap.size w w' := by
  have HL := Lib.hid hl
  have HM := Lib.hid hm
  clear hl hm
  have hne : (((l.length : Int)) != (l.length : Int)) = false := by simp
  go_enter Tryz.func25, Tryz.ntmps25
  go_wp2_with fail
  go_loopw [5] (fun i wr => ∃ k : Nat, k ≤ l.length ∧ i = .int .i64 k ∧ Below w.heap.size w wr) (fun i _ => l.length - (intOf i).toNat)
  case atStart => exact ⟨0, Nat.zero_le _, rfl, by (repeat' (first | with_reducible exact Below.refl _ _ | with_reducible assumption | with_reducible refine Below.drew ?_ | with_reducible refine below_drewN ?_ _ | with_reducible refine Below.setCell ?_ ?_ _ | with_reducible refine Below.alloc ?_ ?_ _ | omega | (simp; done) | (simp; omega)))⟩
  case round =>
    obtain ⟨k, hk, rfl, hw0⟩ := hrel
    have z0 := hw0.size
    by_cases hlt : k < l.length
    · obtain ⟨p, hx⟩ : ∃ x, l[k]? = some x := ⟨l[k], List.getElem?_eq_getElem hlt⟩
      obtain ⟨g, off, rfl, hg, a0⟩ := cell1 (HL.out.below hw0 (Nat.le_refl _)) hx
      obtain ⟨g2, off2, rfl, hg2, b0⟩ := cell1 (HM.out.below hw0 (Nat.le_refl _)) hx
      clear hx
      have hq : (p.toList == p.toList) = true := by simp
      have i1 : (k : Int) < (l.length : Int) := by omega
      go_wp2_with fail
      go_region_held3 (fun w' => w'.cell? ⟨g, off + k, none⟩ = some (.string p) ∧ w'.cell? ⟨g2, off2 + k, none⟩ = some (.string p)) (first | with_reducible exact ⟨a0, b0⟩ | go_keep)
        (fail)
      go_wp2_with fail
      go_roundw
      case rel => exact ⟨k + 1, by omega, by go_num, by (repeat' (first | with_reducible exact Below.refl _ _ | with_reducible assumption | with_reducible refine Below.drew ?_ | with_reducible refine below_drewN ?_ _ | with_reducible refine Below.setCell ?_ ?_ _ | with_reducible refine Below.alloc ?_ ?_ _ | omega | (simp; done) | (simp; omega)))⟩
      case measure => simp [intOf]; omega
    · obtain rfl : k = l.length := by omega
      go_wp2_with fail
      go_ret
      exact ⟨rfl, by (repeat' (first | with_reducible exact Below.refl _ _ | with_reducible assumption | with_reducible refine Below.drew ?_ | with_reducible refine below_drewN ?_ _ | with_reducible refine Below.setCell ?_ ?_ _ | with_reducible refine Below.alloc ?_ ?_ _ | omega | (simp; done) | (simp; omega)))⟩

theorem concat_is (a b c : ByteArray) (w : World) (h : a.size + b.size ≤ 9223372036854775807) (hc : a ++ b = c) : (Op.stringOp .add a b).run Tryz.prog w = .ok (.string c) w := by
  rw [run_string_add_sum w a b h, hc]
/-- a change's line -/
def lineS (P : ByteArray) (c : Ch) : ByteArray := if c.clear = true then ⟨#[99, 108, 101, 97, 114, 32]⟩ ++ c.name else ((⟨#[115, 101, 116, 32]⟩ ++ c.name) ++ ⟨#[32]⟩) ++ P
set_option maxRecDepth 100000 in
set_option maxHeartbeats 1000000 in
theorem line_any (c : Ch) (P : ByteArray) (w : World) (hs : c.name.size ≤ 64) (hp : P.size ≤ 100) (hP : c.clear = false → ∀ W : World, Calls Tryz.prog 73 #[.agg #[.int .i64 c.n, .int .i64 c.d]] W fun e w' => e = .returned (.string P) ∧ Below W.heap.size W w') :
    Calls Tryz.prog 49 #[chV c] w fun e w' => e = .returned (.string (lineS P c)) ∧ Below w.heap.size w w' := by
  obtain ⟨name, cl, n, d⟩ := c
  dsimp only at hs hP
  unfold chV lineS
  dsimp only
  cases cl with
  | true =>
    clear hP
    go_enter Tryz.func49, Tryz.ntmps49
    go_wp2_with fail
    go_ret
    exact ⟨rfl, by (repeat' (first | with_reducible exact Below.refl _ _ | with_reducible assumption | with_reducible refine Below.drew ?_ | with_reducible refine below_drewN ?_ _ | with_reducible refine Below.setCell ?_ ?_ _ | with_reducible refine Below.alloc ?_ ?_ _ | omega | (simp; done) | (simp; omega)))⟩
  | false =>
    have HP := Lib.hid (hP rfl)
    clear hP
    go_enter Tryz.func49, Tryz.ntmps49
    go_wp2_with fail
    obtain ⟨u, hu⟩ : ∃ u, w.alloc (.cells #[.string name, .bool false, .int .i64 n, .int .i64 d] 41) = u := ⟨_, rfl⟩
    have hbu : Below w.heap.size w u := by rw [← hu]; (repeat' (first | with_reducible exact Below.refl _ _ | with_reducible assumption | with_reducible refine Below.drew ?_ | with_reducible refine below_drewN ?_ _ | with_reducible refine Below.setCell ?_ ?_ _ | with_reducible refine Below.alloc ?_ ?_ _ | omega | (simp; done) | (simp; omega)))
    have BU : Hid (u.heap[w.heap.size]? = some (.cells #[.string name, .bool false, .int .i64 n, .int .i64 d] 41 (0, 0))) := Lib.hid (by rw [← hu]; exact blk_new rfl)
    rw [hu]
    clear hu
    have hbd : Below u.heap.size u u.drew := (Below.refl _ _).drew
    have x1 := cellH (w := u.drew) BU
    have zu := hbu.size
    obtain ⟨x1', hx1⟩ : ∃ x, (⟨#[115, 101, 116, 32]⟩ : ByteArray) ++ name = x := ⟨_, rfl⟩
    obtain ⟨x2', hx2⟩ : ∃ x, x1' ++ (⟨#[32]⟩ : ByteArray) = x := ⟨_, rfl⟩
    obtain ⟨x3', hx3⟩ : ∃ x, x2' ++ P = x := ⟨_, rfl⟩
    have s1 : x1'.size = 4 + name.size := by rw [← hx1, ByteArray.size_append]; rfl
    have s2 : x2'.size = x1'.size + 1 := by rw [← hx2, ByteArray.size_append]; rfl
    have r1 := fun W => concat_is ⟨#[115, 101, 116, 32]⟩ name x1' W (by show 4 + name.size ≤ _; omega) hx1
    have r2 := fun W => concat_is x1' ⟨#[32]⟩ x2' W (by show x1'.size + 1 ≤ _; omega) hx2
    have r3 := fun W => concat_is x2' P x3' W (by omega) hx3
    have HX3 : Hid (((⟨#[115, 101, 116, 32]⟩ ++ name) ++ ⟨#[32]⟩) ++ P = x3') := Lib.hid (by rw [hx1, hx2, hx3])
    clear hx1 hx2 hx3 s1 s2 hs hp
    go_region_held3 (fun w' => ∀ o, w'.cell? ⟨w.heap.size, o, none⟩ = #[.string name, .bool false, .int .i64 n, .int .i64 d][o]?) (first | with_reducible exact x1 | with_reducible exact d1)
      (first | (go_at_call 73; refine (HP.out _).mono ?_; rintro e w5 ⟨rfl, hb5⟩; have hb5' : Below u.heap.size u w5 := stepH hbd hb5; have P5 := keepH hb5' BU.out; have d1 := cellH P5))
    go_wp2_with fail
    go_ret
    exact ⟨by rw [HX3.out]; rfl, stepH hbu hb5'⟩

theorem infoS : (Tryz.prog.info? 9).map (fun i => (i.zero, i.size, i.bytes)) = some (some (.string ⟨#[]⟩), 1, 16) := by kernel_rfl
set_option maxRecDepth 100000 in
set_option maxHeartbeats 8000000 in
theorem lines_any (a M N : Nat) (f : Am) (l : List Ch) (P : Ch → ByteArray) (w : World) (h : AmAt w a M f N) (hN : N ≤ 1000) (hl : Canon f l) (hs : ∀ c ∈ l, c.name.size ≤ 64 ∧ (P c).size ≤ 100) (hP : ∀ c ∈ l, c.clear = false → ∀ W : World, Calls Tryz.prog 73 #[.agg #[.int .i64 c.n, .int .i64 c.d]] W fun e w' => e = .returned (.string (P c)) ∧ Below W.heap.size W w') :
    Calls Tryz.prog 21 #[.pointer (some ⟨a, 0, none⟩)] w fun e w' => (∃ v, e = .returned v ∧ Own encS 1 9 w.heap.size w' v (l.map (fun c => lineS (P c) c))) ∧ Below w.heap.size w w' := by
  obtain ⟨inf0, hi, jz0, jz1, jz2⟩ := info_parts infoS
  obtain ⟨MC, hMC, hmk⟩ : ∃ MC : Array Value, MC.size = N * 1 ∧ ∀ w : World, (Instr.makeSlice 50 (.int .i64 0) (.int .i64 (N : Int))).run Tryz.prog w = .ok (.slice (some ⟨w.heap.size, 0, none⟩) 0 N) (w.alloc (.cells MC 9)) := by
    refine ⟨madeCells (Value.string ⟨#[]⟩).cells (N * inf0.size), by rw [size_madeCells, jz1], fun w => ?_⟩
    have h := run_make (P := Tryz.prog) (w := w) 50 9 inf0 _ Tryz.underlying50 hi jz0 .i64 .i64 0 (N : Int) (Int.le_refl _) (by omega) (by rw [jz2]; omega) (by omega)
    simpa using h
  have HH := Lib.hid h
  obtain ⟨D, hown, hr, hz⟩ := h.own
  have BX := Lib.hid h.box
  have cB := cellH BX
  have HL := Lib.hid hl
  have HLI := Lib.hid (fun c (hc : c ∈ l) (W : World) => line_any c (P c) W (hs c hc).1 (hs c hc).2 (hP c hc))
  clear h hr hl hs hP
  go_enter Tryz.func21, Tryz.ntmps21
  go_wp2_with (at_len; refine wpList_len_own _ rfl _ 79 rfl 9 77 Tryz.underlying79 RV M N D rfl hown ?_; rw [hz])
  clear hown
  have hb1 : Below w.heap.size w (w.alloc (.cells MC 9)) := by (repeat' (first | with_reducible exact Below.refl _ _ | with_reducible assumption | with_reducible refine Below.drew ?_ | with_reducible refine below_drewN ?_ _ | with_reducible refine Below.setCell ?_ ?_ _ | with_reducible refine Below.alloc ?_ ?_ _ | omega | (simp; done) | (simp; omega)))
  have HO1 : Hid (Own encS 1 9 w.heap.size (w.alloc (.cells MC 9)) (.slice (some ⟨w.heap.size, 0, none⟩) 0 N) []) := Lib.hid (made_own rfl (Nat.le_refl _) (by unfold maxLen; omega) hMC)
  refine (changes_any a M N f _ (HH.out.step hb1) (by omega)).mono ?_
  rintro e w2 ⟨⟨v2, l2, rfl, hown2, hc2, hn2⟩, hb2⟩
  obtain ⟨A2, c2, rfl, hr2, _, hfar⟩ := own_line (fun x _ => chL_len x) hown2
  obtain rfl := hc2.unique HL.out
  have hw2 : Below w.heap.size w w2 := stepH hb1 hb2
  have HR2 := Lib.hid hr2
  have HFA : Hid (∀ q, A2 = some q → w.heap.size + 1 ≤ q.block) := Lib.hid (fun q hq => by have := hfar q hq; simp at this; omega)
  have HO2 := Lib.hid (HO1.out.below hb2)
  clear hown2 hc2 hr2 hfar hmk HO1 hb2 cB
  rw [hn2]
  go_wp2_with fail
  go_loopw [3, 15] (fun u i wr => ∃ (k : Nat) (L : List ByteArray), k ≤ N ∧ i = .int .i64 k ∧ Hid (Own encS 1 9 w.heap.size wr u L) ∧ Hid (L = (l2.take k).map (fun c => lineS (P c) c)) ∧ L.length = k ∧ OnlyL [w.heap.size] w2 wr ∧ Below w.heap.size w wr ∧ Hid (∀ g, u.ownBlock = some g → g = w.heap.size ∨ w2.heap.size ≤ g)) (fun _ i _ => N - (intOf i).toNat)
  case atStart => exact ⟨0, [], Nat.zero_le _, rfl, HO2, Lib.hid rfl, rfl, OnlyL.refl _ _, hw2, Lib.hid (fun g hg => .inl (by simp [Value.ownBlock] at hg; omega))⟩
  case round =>
    obtain ⟨k, L, hk, rfl, HROW, HMAP, hLk, hw3, hwr, HBK⟩ := hrel
    have z3 := hw3.size
    have z2 := hw2.size
    have z4 := hwr.size
    by_cases hlt : k < N
    · obtain ⟨c, hc⟩ : ∃ x, l2[k]? = some x := ⟨l2[k]'(by omega), List.getElem?_eq_getElem _⟩
      have HX := Lib.hid hc
      have HLC := Lib.hid (HLI.out c (List.mem_of_getElem? hc))
      obtain ⟨g, off, rfl, hg, c0, c1, c2', c3⟩ := cellsC HR2.out hc
      have hne : g ≠ w.heap.size := fun e => by have := HFA.out _ rfl; simp at this; omega
      have hcell : ∀ o v, w2.cell? ⟨g, o, none⟩ = some v → wr.cell? ⟨g, o, none⟩ = some v := fun o v h => (World.cell?_of_block (w := w2) (w' := wr) (a := ⟨g, o, none⟩) (hw3.block g hg (by simpa using hne))).trans h
      have p0 := hcell _ _ c0
      have p1 := hcell _ _ c1
      have p2 := hcell _ _ c2'
      have p3 := hcell _ _ c3
      have HRW := Lib.hid HROW.out
      have hlt2 : (k : Int) < (N : Int) := by omega
      have hlt3 : (k : Int) < (l2.length : Int) := by omega
      clear hc c0 c1 c2' c3 hcell hg
      go_wp2_with fail
      refine (HLC.out _).mono ?_
      rintro e w4 ⟨rfl, hb4⟩
      have hb4' : Below wr.heap.size wr w4 := stepH (by (repeat' (first | with_reducible exact Below.refl _ _ | with_reducible assumption | with_reducible refine Below.drew ?_ | with_reducible refine below_drewN ?_ _ | with_reducible refine Below.setCell ?_ ?_ _ | with_reducible refine Below.alloc ?_ ?_ _ | omega | (simp; done) | (simp; omega)))) hb4
      have z5 := hb4'.size
      have HRW4 := Lib.hid (own_below HRW.out hb4')
      go_wp2_with (at_builtin; go_must (refine wpList_append_lies _ rfl (.tmp 19) (.tmp 22) 50 rfl w.heap.size 9 inf0 _ 1 16 Tryz.underlying50 hi jz0 jz1 jz2 rfl (by decide) _ L.length _ rfl (own_below HRW4.out (by (repeat' (first | with_reducible exact Below.refl _ _ | with_reducible assumption | with_reducible refine Below.drew ?_ | with_reducible refine below_drewN ?_ _ | with_reducible refine Below.setCell ?_ ?_ _ | with_reducible refine Below.alloc ?_ ?_ _ | omega | (simp; done) | (simp; omega))))) ⟨w4.heap.size, 0, none⟩ 1 1 [.string (lineS (P c) c)] rfl rfl (World.news_of_block (cs := #[.string (lineS (P c) c)]) (blk_new rfl)) (by simp [Value.oneCell']) (by decide) (by unfold maxLen; omega) (by omega) (by simp; omega) _ rfl ?_); intro g9 c9 w9 hown9 hgrow9 hat9 hlt9)
      go_roundw
      case rel =>
        refine ⟨k + 1, L ++ [lineS (P c) c], by omega, by go_num, Lib.hid (by have q := Own.snoc hown9 rfl rfl; rw [hLk] at q; exact q), Lib.hid (by rw [HMAP.out, take_snoc HX.out]; simp), by simp; omega, ?_, ?_, Lib.hid (fun g hg => ?_)⟩
        · refine ⟨hgrow9.os.trans (hb4'.os.trans hw3.os), hgrow9.tape.trans (hb4'.tape.trans hw3.tape), hgrow9.output.trans (hb4'.output.trans hw3.output), by have := hgrow9.size; simp at this; omega, fun i hi hn => ?_⟩
          have e1 := hgrow9.block i (by simp; omega) (fun e => by
            rcases HBK.out i e.symm with h | h
            · exact hn (by simp [h])
            · omega)
          exact e1.trans ((Below.heap_alloc _ _ i (by omega)).trans ((hb4'.block i (by omega)).trans (hw3.block i hi hn)))
        · exact Below.grown (Below.alloc (stepH hwr hb4') (by omega) _) hgrow9 (by simp; omega) (fun g hg => by
            have := HRW.out.lt g hg
            omega)
        · rcases hat9 with h | h
          · exact HBK.out g (Eq.trans h (by simpa [Value.ownBlock] using hg))
          · simp [Value.ownBlock] at hg; simp at h; omega
      case measure => simp [intOf] <;> omega
    · obtain rfl : k = N := by omega
      have hlt2 : ¬ (k : Int) < (k : Int) := by omega
      have hLi : L = l2.map (fun c => lineS (P c) c) := by rw [HMAP.out, List.take_of_length_le (by omega)]
      have HRES := Lib.hid (hLi ▸ HROW.out)
      clear hLi
      go_wp2_with fail
      go_ret
      exact ⟨⟨_, rfl, HRES.out⟩, hwr⟩
end Go.Proofs.YtmoeoomlggjaaaaGreatDoor
