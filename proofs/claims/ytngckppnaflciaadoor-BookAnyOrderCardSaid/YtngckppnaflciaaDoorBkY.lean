/- Book.copied, Known: walks. -/
import Derived.Test.YtngckppnaflciaaDoorBkX
namespace Go.Proofs.YtngckppnaflciaaDoor
open Go.RowKit Go.Maps

/-- a provision is laid into a book's map -/
theorem BookAt.put {w : World} {b M : Nat} {cl : Bool} {S : List Pv} (h : BookAt w b M cl S) {p : Pv} {A : Option Addr} {c : Nat} (hA : PvAt w w.heap.size p A c) (hI : PvIn p ∧ p.id.size ≤ maxLen) (hn : ∀ q ∈ S, idb q ≠ idb p) (hS : S.length < 100000) :
    ∃ w', (Instr.mapUpdate 53 (.map (some M)) (.string p.id) (pvV p A c)).run Tryd.prog w = .ok () w' ∧ BookAt w' b M cl (S ++ [p]) ∧ w.grownBy w' (some M) := by
  obtain ⟨D, hown, hr⟩ := h.own
  obtain ⟨w4, hrun, hown4, hg4⟩ := hown.update lawS Tryd.underlying53 (by unfold maxLen; omega) (key := .string p.id) (val := pvV p A c) (keyS_of hI.2) (d := .held (pvV p A c)) (ps := []) rfl
  have hm := own_isMap hown
  exact ⟨w4, hrun, ⟨heap_turn h.box hg4 hm, D.put (keyS p.id) (.held (pvV p A c)), by rw [List.length_append]; exact hown4, (hr.put hA hI hn).only (only_turn hg4) hm⟩, hg4⟩
theorem ProvsAt.only {w w' : World} {M : Nat} {A : Option Addr} {l : List Pv} (h : ProvsAt w w.heap.size A l) (ho : OnlyL [M] w w') (hm : ∃ es k, w.heap[M]? = some (.map es k)) : ProvsAt w' w'.heap.size A l := fun k p hk => by
  obtain ⟨b, off, F, c, h1, h2, h3, h4⟩ := h k p hk
  exact ⟨b, off, F, c, h1, Nat.lt_of_lt_of_le h2 ho.size, fun j u hj => cell_only (h3 j u hj) ho hm, h4.only ho hm⟩
theorem sel_ids {F : Pv → Bool} {S : List Pv} (hn : (S.map idb).Nodup) : ((sel F S).map idb).Nodup :=
  List.Nodup.sublist (List.Sublist.map _ List.filter_sublist) (srt_nodup hn)
theorem sel_mem {F : Pv → Bool} {S : List Pv} (hn : (S.map idb).Nodup) {p : Pv} (h : p ∈ sel F S) : p ∈ S := (srt_mem hn).1 (List.mem_filter.1 h).1
theorem sel_len {F : Pv → Bool} {S : List Pv} (hn : (S.map idb).Nodup) : (sel F S).length ≤ S.length := by
  rw [← srt_len hn]; exact List.length_filter_le ..
theorem ahead_ne {l : List Pv} (hn : (l.map idb).Nodup) {k : Nat} {p : Pv} (hk : l[k]? = some p) : ∀ q ∈ l.take k, idb q ≠ idb p := by
  intro q hq e
  obtain ⟨j, hj, rfl⟩ := List.mem_take_iff_getElem.1 hq
  have hjk : j < k := by omega
  have hl : k < l.length := (List.getElem?_eq_some_iff.1 hk).1
  have hp : l[k] = p := by rw [List.getElem?_eq_getElem hl] at hk; injection hk
  have := (List.pairwise_iff_getElem.1 hn) j k (by simpa using (show j < l.length by omega)) (by simpa using hl) hjk
  apply this
  simp [e, hp]

set_option maxRecDepth 100000 in
set_option maxHeartbeats 8000000 in
theorem copied_any (b M : Nat) (cl : Bool) (S : List Pv) (F : Pv → Bool) (gf : Nat) (cb : Array Value) (w : World) (h : BookAt w b M cl S) (hS : S.length ≤ 10000)
    (eg : ∀ args w, (callFunc gf args).run Tryd.prog w = .ok (.enter gf args) w)
    (hf : ∀ p ∈ S, ∀ A c W, Below w.heap.size w W → PvAt W W.heap.size p A c → Calls Tryd.prog gf (#[pvV p A c] ++ cb) W fun e W' => e = .returned (.bool (F p)) ∧ Below W.heap.size W W') :
    Calls Tryd.prog 24 #[.pointer (some ⟨b, 0, none⟩), .func (.func gf) #[] cb] w fun e w' => (∃ b' M', e = .returned (.pointer (some ⟨b', 0, none⟩)) ∧ BookAt w' b' M' false (sel F S) ∧ w.heap.size ≤ b' ∧ w.heap.size ≤ M') ∧ Below w.heap.size w w' := by
  have HH := Lib.hid h
  have HFN := Lib.hid hf
  obtain ⟨D, hown, hr⟩ := h.own
  have HR := Lib.hid hr
  have hll := sel_len (F := F) hr.nodup
  clear h hf hown hr
  go_enter Tryd.func24, Tryd.ntmps24
  go_wp2_with fail
  refine (new_any w).mono ?_
  rintro e w1 ⟨b', M', rfl, hb', hlb, hlm, hb1⟩
  have HW := Lib.hid (where_any b M cl S F gf cb w1 (HH.out.step hb1) (by omega) eg (fun p hp A c W hb ha => HFN.out p hp A c W (stepH hb1 hb) ha))
  have HB1 := Lib.hid hb'
  clear hb' 
  go_wp2_with fail
  refine HW.out.mono ?_
  rintro e w2 ⟨⟨A2, c2, rfl, hpr⟩, hb2⟩
  have hw2 : Below w.heap.size w w2 := stepH hb1 hb2
  have HB2 := Lib.hid (HB1.out.step hb2)
  have HPR := Lib.hid hpr
  have hz2 := hw2.size
  obtain ⟨l, hl⟩ : ∃ l, sel F S = l := ⟨_, rfl⟩
  have HL := Lib.hid hl
  rw [hl] at HPR hll ⊢
  have HND : Hid ((l.map idb).Nodup) := Lib.hid (by rw [← hl]; exact sel_ids HR.out.nodup)
  have HIN : Hid (∀ p ∈ l, PvIn p ∧ p.id.size ≤ maxLen) := Lib.hid (fun p hp => HR.out.inn p (sel_mem (F := F) HR.out.nodup (by rw [hl]; exact hp)))
  clear hpr hl HB1 HW
  go_wp2_with fail
  go_loopw [13] (fun i wr => ∃ k : Nat, k ≤ l.length ∧ i = .int .i64 k ∧ Hid (BookAt wr b' M' false (l.take k)) ∧ OnlyL [M'] w2 wr) (fun i _ => l.length - (intOf i).toNat)
  case atStart => exact ⟨0, Nat.zero_le _, rfl, HB2, OnlyL.refl _ _⟩
  case round =>
    obtain ⟨k, hk, rfl, HBK, ho⟩ := hrel
    have z3 := ho.size
    by_cases hlt : k < l.length
    · obtain ⟨p, hx⟩ : ∃ x, l[k]? = some x := ⟨l[k], List.getElem?_eq_getElem hlt⟩
      have hlt2 : (k : Int) < (l.length : Int) := by omega
      obtain ⟨g, off, F, cF, rfl, hg, ca, pa⟩ := (HPR.out.only ho HB2.out.isMap) k p hx
      have a0 : wr.cell? ⟨g, off + k * 15, none⟩ = some (.string p.id) := ca 0 _ rfl
      have a1 : wr.cell? ⟨g, off + k * 15 + 1, none⟩ = some (.string p.key) := ca 1 _ rfl
      have a2 : wr.cell? ⟨g, off + k * 15 + 2, none⟩ = some (.int .i64 p.s0) := ca 2 _ rfl
      have a3 : wr.cell? ⟨g, off + k * 15 + 3, none⟩ = some (.int .i64 p.s1) := ca 3 _ rfl
      have a4 : wr.cell? ⟨g, off + k * 15 + 4, none⟩ = some (.int .i64 p.ena) := ca 4 _ rfl
      have a5 : wr.cell? ⟨g, off + k * 15 + 5, none⟩ = some (.int .i64 p.rank) := ca 5 _ rfl
      have a6 : wr.cell? ⟨g, off + k * 15 + 6, none⟩ = some (.string p.rep) := ca 6 _ rfl
      have a7 : wr.cell? ⟨g, off + k * 15 + 7, none⟩ = some (.int .i64 p.kind) := ca 7 _ rfl
      have a8 : wr.cell? ⟨g, off + k * 15 + 8, none⟩ = some (.int .i64 p.n) := ca 8 _ rfl
      have a9 : wr.cell? ⟨g, off + k * 15 + 9, none⟩ = some (.int .i64 p.d) := ca 9 _ rfl
      have a10 : wr.cell? ⟨g, off + k * 15 + 10, none⟩ = some (.slice F p.scale.length cF) := ca 10 _ rfl
      have a11 : wr.cell? ⟨g, off + k * 15 + 11, none⟩ = some (.string p.rule) := ca 11 _ rfl
      have a12 : wr.cell? ⟨g, off + k * 15 + 12, none⟩ = some (.int .i64 p.mode) := ca 12 _ rfl
      have a13 : wr.cell? ⟨g, off + k * 15 + 13, none⟩ = some (.int .i64 p.un) := ca 13 _ rfl
      have a14 : wr.cell? ⟨g, off + k * 15 + 14, none⟩ = some (.int .i64 p.ud) := ca 14 _ rfl
      have HAH := Lib.hid (ahead_ne HND.out hx)
      have HPI := Lib.hid (HIN.out p (List.mem_of_getElem? hx))
      have HX := Lib.hid hx
      have HPA := Lib.hid pa
      clear ca hx pa
      go_wp2_with fail
      have hba : Below wr.heap.size wr (wr.alloc (.cells #[.string p.id, .string p.key, .int .i64 p.s0, .int .i64 p.s1, .int .i64 p.ena, .int .i64 p.rank, .string p.rep, .int .i64 p.kind, .int .i64 p.n, .int .i64 p.d, .slice F p.scale.length cF, .string p.rule, .int .i64 p.mode, .int .i64 p.un, .int .i64 p.ud] 43)) := by (repeat' (first | with_reducible exact Below.refl _ _ | with_reducible assumption | with_reducible refine Below.drew ?_ | with_reducible refine below_drewN ?_ _ | with_reducible refine Below.setCell ?_ ?_ _ | with_reducible refine Below.alloc ?_ ?_ _ | omega | (simp; done) | (simp; omega)))
      have P3 : Hid ((wr.alloc (.cells #[.string p.id, .string p.key, .int .i64 p.s0, .int .i64 p.s1, .int .i64 p.ena, .int .i64 p.rank, .string p.rep, .int .i64 p.kind, .int .i64 p.n, .int .i64 p.d, .slice F p.scale.length cF, .string p.rule, .int .i64 p.mode, .int .i64 p.un, .int .i64 p.ud] 43)).heap[wr.heap.size]? = some (.cells #[.string p.id, .string p.key, .int .i64 p.s0, .int .i64 p.s1, .int .i64 p.ena, .int .i64 p.rank, .string p.rep, .int .i64 p.kind, .int .i64 p.n, .int .i64 p.d, .slice F p.scale.length cF, .string p.rule, .int .i64 p.mode, .int .i64 p.un, .int .i64 p.ud] 43 (0, 0))) := Lib.hid (blk_new rfl)
      have HBA := Lib.hid (HBK.out.step hba)
      have HPB := Lib.hid (HPA.out.step hba)
      generalize (wr.alloc (.cells #[.string p.id, .string p.key, .int .i64 p.s0, .int .i64 p.s1, .int .i64 p.ena, .int .i64 p.rank, .string p.rep, .int .i64 p.kind, .int .i64 p.n, .int .i64 p.d, .slice F p.scale.length cF, .string p.rule, .int .i64 p.mode, .int .i64 p.un, .int .i64 p.ud] 43)) = w3 at *
      have hbd : Below w3.heap.size w3 w3.drew := (Below.refl _ _).drew
      obtain ⟨w4, hrunU, hbk4, hg4⟩ := BookAt.put (HBA.out.step hbd) (HPB.out.step hbd) HPI.out HAH.out (by rw [List.length_take]; omega)
      have hm3 := HBA.out.isMap
      have B3 := Lib.hid HBA.out.box
      have x0 : w3.drew.cell? ⟨b', 0, none⟩ = some (.map (some M')) := cellH B3 0
      have x1 := cellH (w := w3.drew) P3
      have d0 : w4.cell? ⟨b', 0, none⟩ = some (.map (some M')) := cellH (Lib.hid (heap_turn (w := w3.drew) HBA.out.box hg4 hm3)) 0
      have d1 := cellH (Lib.hid (heap_turn (w := w3.drew) P3.out hg4 hm3))
      unfold pvV at hrunU
      go_region_held3 (fun w' => w'.cell? ⟨b', 0, none⟩ = some (.map (some M')) ∧ ∀ o, w'.cell? ⟨wr.heap.size, o, none⟩ = #[.string p.id, .string p.key, .int .i64 p.s0, .int .i64 p.s1, .int .i64 p.ena, .int .i64 p.rank, .string p.rep, .int .i64 p.kind, .int .i64 p.n, .int .i64 p.d, .slice F p.scale.length cF, .string p.rule, .int .i64 p.mode, .int .i64 p.un, .int .i64 p.ud][o]?) (first | with_reducible exact ⟨x0, x1⟩ | with_reducible exact ⟨d0, d1⟩)
        (fail)
      go_wp2_with fail
      go_roundw
      case rel =>
        refine ⟨k + 1, by omega, by go_num, Lib.hid (by rw [take_snoc HX.out]; exact hbk4), ?_⟩
        exact (ho.trans ⟨hba.os, hba.tape, hba.output, hba.size, fun k hk _ => hba.block k hk⟩).drew.trans (only_turn hg4)
      case measure => simp [intOf] <;> omega
    · obtain rfl : k = l.length := by omega
      have HE : Hid (BookAt wr b' M' false l) := Lib.hid (by have := HBK.out; rwa [List.take_length] at this)
      have HO := Lib.hid ho
      clear ho HBK
      go_wp2_with fail
      go_ret
      exact ⟨⟨b', M', rfl, (by rw [HL.out]; exact HE.out), hlb, hlm⟩, hw2.trans (HO.out.below hz2 (by simpa using hlm))⟩

set_option maxRecDepth 100000 in
theorem known_any (b M : Nat) (cl : Bool) (S : List Pv) (d : Int) (w : World) (h : BookAt w b M cl S) (hS : S.length ≤ 10000) :
    Calls Tryd.prog 10 #[.pointer (some ⟨b, 0, none⟩), .int .i64 d] w fun e w' => (∃ b' M', e = .returned (.pointer (some ⟨b', 0, none⟩)) ∧ BookAt w' b' M' true (sel (knownB d) S) ∧ w.heap.size ≤ b' ∧ w.heap.size ≤ M') ∧ Below w.heap.size w w' := by
  have hmf : ∀ (fn : Fn) (first cap : Array Value) (w : World), (Instr.makeFunc fn first cap).run Tryd.prog w = .ok (.func fn first cap) w := fun _ _ _ _ => rfl
  have HW := Lib.hid (copied_any b M cl S (knownB d) 25 #[.pointer (some ⟨w.heap.size, 0, none⟩)] (w.alloc (.cells #[.int .i64 d] 3)) (h.step (by (repeat' (first | with_reducible exact Below.refl _ _ | with_reducible assumption | with_reducible refine Below.drew ?_ | with_reducible refine below_drewN ?_ _ | with_reducible refine Below.setCell ?_ ?_ _ | with_reducible refine Below.alloc ?_ ?_ _ | omega | (simp; done) | (simp; omega))))) hS call_k1 (fun p _ A c W hb _ => known1_any d p A c _ W ((hb.cell (p := ⟨w.heap.size, 0, none⟩) (by simp)).trans (cellH (Lib.hid (blk_new (w := w) rfl)) 0))))
  clear h
  go_enter Tryd.func10, Tryd.ntmps10
  go_wp2_with fail
  refine HW.out.mono ?_
  rintro e w1 ⟨⟨b', M', rfl, hbk, h1, h2⟩, hb⟩
  have HB := Lib.hid hbk
  have BX := Lib.hid hbk.box
  have cB := cellH BX
  have fB := frozH BX
  obtain ⟨lB, lB1, lB2⟩ := ltH BX
  have hw1 : Below w.heap.size w w1 := stepH (by (repeat' (first | with_reducible exact Below.refl _ _ | with_reducible assumption | with_reducible refine Below.drew ?_ | with_reducible refine below_drewN ?_ _ | with_reducible refine Below.setCell ?_ ?_ _ | with_reducible refine Below.alloc ?_ ?_ _ | omega | (simp; done) | (simp; omega)))) hb
  simp only [World.size_alloc] at h1 h2
  clear hbk hb
  go_wp2_with fail
  go_ret
  exact ⟨⟨b', M', rfl, HB.out.close, by omega, by omega⟩, by (repeat' (first | with_reducible exact Below.refl _ _ | with_reducible assumption | with_reducible refine Below.drew ?_ | with_reducible refine below_drewN ?_ _ | with_reducible refine Below.setCell ?_ ?_ _ | with_reducible refine Below.alloc ?_ ?_ _ | omega | (simp; done) | (simp; omega)))⟩
end Go.Proofs.YtngckppnaflciaaDoor
