/- amend.Make: a walk. -/
import Derived.Test.YtmoeoomlggjaaaaGreatDoorAmD
namespace Go.Proofs.YtmoeoomlggjaaaaGreatDoor
open Go.RowKit Go.Maps

theorem chL_len (c : Ch) : (chL c).length = 4 := rfl
theorem cellsC {w : World} {B : Nat} {A : Option Addr} {s : List Ch} {k : Nat} {c : Ch} (h : RowAt chL 4 w B A s) (hk : s[k]? = some c) : ∃ g off, A = some ⟨g, off, none⟩ ∧ g < B ∧
    w.cell? ⟨g, off + k * 4, none⟩ = some (.string c.name) ∧ w.cell? ⟨g, off + k * 4 + 1, none⟩ = some (.bool c.clear) ∧ w.cell? ⟨g, off + k * 4 + 2, none⟩ = some (.int .i64 c.n) ∧ w.cell? ⟨g, off + k * 4 + 3, none⟩ = some (.int .i64 c.d) := by
  obtain ⟨g, off, rfl, hg, hc⟩ := h k c hk
  exact ⟨g, off, rfl, hg, hc 0 _ rfl, hc 1 _ rfl, hc 2 _ rfl, hc 3 _ rfl⟩
theorem map_ne_cell {w : World} {M : Nat} {es : Array MapEntry} {k : Nat} {p : Addr} {v : Value} (hm : w.heap[M]? = some (.map es k)) (h : w.cell? p = some v) : p.block ≠ M := fun e => by
  simp [World.cell?, e, hm] at h
theorem cell_only {w w' : World} {M : Nat} {p : Addr} {v : Value} (h : w.cell? p = some v) (ho : OnlyL [M] w w') (hm : ∃ es k, w.heap[M]? = some (.map es k)) : w'.cell? p = some v := by
  obtain ⟨es, k, hm⟩ := hm
  exact (World.cell?_of_block (w := w) (a := p) (ho.block p.block (cell_lt h) (by simpa using map_ne_cell hm h))).trans h
theorem row_only {α : Type} {enc : α → List Value} {size : Nat} {w w' : World} {M : Nat} {A : Option Addr} {l : List α} (h : RowAt enc size w w.heap.size A l) (ho : OnlyL [M] w w') (hm : ∃ es k, w.heap[M]? = some (.map es k)) : RowAt enc size w' w'.heap.size A l := fun k x hx => by
  obtain ⟨b, off, h1, h2, h3⟩ := h k x hx
  exact ⟨b, off, h1, Nat.lt_of_lt_of_le h2 ho.size, fun j u hj => cell_only (h3 j u hj) ho hm⟩

theorem row_step {α : Type} {enc : α → List Value} {size : Nat} {w w' : World} {A : Option Addr} {l : List α} (h : RowAt enc size w w.heap.size A l) (hb : Below w.heap.size w w') : RowAt enc size w' w'.heap.size A l := (h.below hb (Nat.le_refl _)).more hb.size
/-- changes, one behind the other -/
def makeF (l : List Ch) : Am := l.foldl putA (fun _ => none)
theorem makeF_snoc {l : List Ch} {k : Nat} {c : Ch} (h : l[k]? = some c) : makeF (l.take (k + 1)) = putA (makeF (l.take k)) c := by
  unfold makeF
  rw [take_snoc h, List.foldl_append]; rfl
/-- numbers that the code can hold -/
def InC (c : Ch) : Prop := In8 c.n ∧ In8 c.d
/-- what Make answers -/
def MakeR (E : Nat → Addr) (w : World) (l : List Ch) (e : Ending) (w' : World) : Prop :=
  ((∀ c ∈ l, mayE c = none) ∧ ∃ a M N, e = .returned (.tuple #[.pointer (some ⟨a, 0, none⟩), .nilIface]) ∧ AmAt w' a M (makeF l) N ∧ N ≤ l.length ∧ w.heap.size ≤ a ∧ w.heap.size ≤ M) ∨
  ((∃ c ∈ l, mayE c ≠ none) ∧ ∃ g, g ∈ LA ∧ e = .returned (.tuple #[.pointer none, errA E (some g)]))
theorem mayE_size {c : Ch} (h : mayE c = none) : c.name.size ≤ 64 := by
  unfold mayE at h
  split at h
  · cases h
  · rename_i hi
    have : inB c.name = true := by simpa using hi
    unfold inB at this
    simp only [Bool.and_eq_true] at this
    by_cases hn : nameB c.name = true
    · exact nameB_size hn
    · exfalso
      have h1 := this.1
      unfold spaceB at h1
      rw [if_neg hn] at h1
      simp at h1
theorem mayE_in {c : Ch} {g : Nat} (h : mayE c = some g) : g ∈ LA := by
  unfold mayE at h
  unfold LA
  split at h
  · injection h with h; subst h; simp
  · split at h
    · split at h
      · cases h
      · injection h with h; subst h; simp
    · split at h
      · cases h
      · injection h with h; subst h; simp

set_option maxRecDepth 100000 in
set_option maxHeartbeats 8000000 in
theorem make_any (l : List Ch) (A : Option Addr) (cp : Nat) (E : Nat → Addr) (m : Int) (w : World) (hl : RowAt chL 4 w w.heap.size A l) (hn : l.length ≤ 500) (hI : ∀ c ∈ l, InC c) (hE : Env LA E w) (hm : w.cell? ⟨4, 0, none⟩ = some (.int .i64 m)) :
    Calls Tryz.prog 16 #[.slice A l.length cp] w fun e w' => MakeR E w l e w' ∧ Below w.heap.size w w' := by
  have HL := Lib.hid hl
  have HI := Lib.hid hI
  have HE := Lib.hid hE
  have HM := Lib.hid hm
  clear hl hI hE hm
  go_enter Tryz.func16, Tryz.ntmps16
  go_wp2_with fail
  refine (none_any w).mono ?_
  rintro e w1 ⟨a, M, rfl, ha, hla, hlm, hb1⟩
  have HA := Lib.hid ha
  have z1 := hb1.size
  have haM := ha.lt
  have hmp := ha.isMap
  clear ha
  go_wp2_with fail
  go_loopw [11] (fun i wr => ∃ k N : Nat, k ≤ l.length ∧ i = .int .i64 k ∧ N ≤ k ∧ Hid (AmAt wr a M (makeF (l.take k)) N) ∧ Hid (∀ c ∈ l.take k, mayE c = none) ∧ OnlyL [M] w1 wr) (fun i _ => l.length - (intOf i).toNat)
  case atStart => exact ⟨0, 0, Nat.zero_le _, rfl, Nat.le_refl _, HA, Lib.hid (fun c h => by simp at h), OnlyL.refl _ _⟩
  case round =>
    obtain ⟨k, N, hk, rfl, hNk, HAM, HOK, ho⟩ := hrel
    have z2 := ho.size
    have hwr : Below w.heap.size w wr := hb1.trans (ho.below z1 (fun k hk => by simp at hk; omega))
    by_cases hlt : k < l.length
    · have hlt2 : (k : Int) < (l.length : Int) := by omega
      obtain ⟨c, hx⟩ : ∃ x, l[k]? = some x := ⟨l[k], List.getElem?_eq_getElem hlt⟩
      obtain ⟨hin, hid⟩ := HI.out c (List.mem_of_getElem? hx)
      obtain ⟨g, off, rfl, hg, c0, c1, c2, c3⟩ := cellsC (row_only (row_step HL.out hb1) ho hmp) hx
      have HX := Lib.hid hx
      clear hx
      have hba : Below wr.heap.size wr (wr.alloc (.cells #[.string c.name, .bool c.clear, .int .i64 c.n, .int .i64 c.d] 41)) := by (repeat' (first | with_reducible exact Below.refl _ _ | with_reducible assumption | with_reducible refine Below.drew ?_ | with_reducible refine below_drewN ?_ _ | with_reducible refine Below.setCell ?_ ?_ _ | with_reducible refine Below.alloc ?_ ?_ _ | omega | (simp; done) | (simp; omega)))
      have PB : Hid ((wr.alloc (.cells #[.string c.name, .bool c.clear, .int .i64 c.n, .int .i64 c.d] 41)).heap[wr.heap.size]? = some (.cells #[.string c.name, .bool c.clear, .int .i64 c.n, .int .i64 c.d] 41 (0, 0))) := Lib.hid (blk_new rfl)
      have HAB := Lib.hid (HAM.out.step hba)
      have hwa : Below w.heap.size w (wr.alloc (.cells #[.string c.name, .bool c.clear, .int .i64 c.n, .int .i64 c.d] 41)) := stepH hwr hba
      cases hv : mayE c with
      | some v =>
        have hne := fun W => eql_nil (E v) W
        have HR : Hid (MakeR E w l (.returned (.tuple #[.pointer none, errA E (some v)])) w) := Lib.hid (.inr ⟨⟨c, List.mem_of_getElem? HX.out, by rw [hv]; simp⟩, v, mayE_in hv, rfl⟩)
        go_wp2_with fail
        refine (may_is c.name c.n c.d c.clear (some v) E m _ (HE.out.below hwa) (cell_at HM.out hwa) hin hid hv).mono ?_
        rintro e w3 ⟨rfl, hb3⟩
        have hw3 := stepH hwa hb3
        rw [show errA E (some v) = .iface 184 (.pointer (some (E v))) from rfl] at HR ⊢
        go_wp2_with fail
        go_ret2
        refine ⟨?_, hw3⟩
        rcases HR.out with ⟨_, a', M', N', h9, _⟩ | ⟨h8, v', h9, h10⟩
        · cases h9
        · exact .inr ⟨h8, v', h9, h10⟩
      | none =>
        have hns := mayE_size hv
        have hn2 : c.name.size ≤ maxLen := by unfold maxLen; omega
        go_wp2_with fail
        refine (may_is c.name c.n c.d c.clear none E m _ (HE.out.below hwa) (cell_at HM.out hwa) hin hid hv).mono ?_
        rintro e w3 ⟨rfl, hb3⟩
        have hw3 := stepH hwa hb3
        have PB3 := keepH hb3 PB.out
        have HA3 := Lib.hid (HAB.out.step hb3)
        have ho3 : OnlyL [M] w1 w3 := (ho.trans (only_step hba)).trans (only_step hb3)
        clear hb3 PB HAB c0 c1 c2 c3
        rw [show errA E none = .nilIface from rfl]
        go_wp2_with fail
        have BX := Lib.hid HA3.out.box
        have hbd : Below w3.heap.size w3 w3.drew := (Below.refl _ _).drew
        have x0 : w3.drew.cell? ⟨a, 0, none⟩ = some (.map (some M)) := cellH BX 0
        have x1 := cellH (w := w3.drew) PB3
        go_region_held3 (fun w' => w'.cell? ⟨a, 0, none⟩ = some (.map (some M)) ∧ ∀ o, w'.cell? ⟨wr.heap.size, o, none⟩ = #[.string c.name, .bool c.clear, .int .i64 c.n, .int .i64 c.d][o]?) (first | with_reducible exact ⟨x0, x1⟩ | with_reducible exact ⟨d0, d1⟩)
          (first | (go_at_call 38; refine (made_any c w3.drew).mono ?_; rintro e w5 ⟨⟨g5, rfl, hbx, hg5⟩, hb5⟩; have hb5' : Below w3.heap.size w3 w5 := stepH hbd hb5; have P5 := keepH hb5' PB3.out; have HA5 := Lib.hid (HA3.out.step hb5'); have B5 := Lib.hid HA5.out.box; obtain ⟨w6, hrunU, ⟨N6, hA6, hN6⟩, hg6⟩ := HA5.out.put hn2 hbx (by omega); have hm5 := HA5.out.isMap; have d0 : w6.cell? ⟨a, 0, none⟩ = some (.map (some M)) := cellH (Lib.hid (heap_turn B5.out hg6 hm5)) 0; have d1 := cellH (Lib.hid (heap_turn P5.out hg6 hm5)); have x0 : w5.cell? ⟨a, 0, none⟩ = some (.map (some M)) := cellH B5 0; have x1 := cellH P5; have HA6 := Lib.hid hA6; have HG6 := Lib.hid hg6; have HB5 := Lib.hid hb5'; clear hb5 hA6 hg6 hbx))
        go_wp2_with fail
        go_roundw
        case rel =>
          refine ⟨k + 1, N6, by omega, by go_num, by omega, Lib.hid (by rw [makeF_snoc HX.out]; exact HA6.out), Lib.hid (fun q hq => ?_), (ho3.trans (only_step HB5.out)).trans (only_turn HG6.out)⟩
          rw [take_snoc HX.out] at hq
          rcases List.mem_append.1 hq with hq | hq
          · exact HOK.out q hq
          · simp at hq; subst hq; exact hv
        case measure => simp [intOf] <;> omega
    · obtain rfl : k = l.length := by omega
      have hlt2 : ¬ (l.length : Int) < (l.length : Int) := by omega
      have HAE : Hid (AmAt wr a M (makeF l) N) := Lib.hid (by have := HAM.out; rwa [List.take_length] at this)
      have HOE : Hid (∀ c ∈ l, mayE c = none) := Lib.hid (by have := HOK.out; rwa [List.take_length] at this)
      clear HAM HOK
      go_wp2_with fail
      refine (few_ok a M N _ wr HAE.out (by omega)).mono ?_
      rintro e w7 ⟨rfl, hb7⟩
      have HA7 := Lib.hid (HAE.out.step hb7)
      have hw7 := stepH hwr hb7
      go_wp2_with fail
      go_ret2
      exact ⟨.inl ⟨HOE.out, a, M, N, rfl, HA7.out, hNk, hla, hlm⟩, hw7⟩
end Go.Proofs.YtmoeoomlggjaaaaGreatDoor
