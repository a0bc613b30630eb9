/- tithelaw25.good: the walk. -/
import Derived.Test.YtmoeoomlggjaaaaGreatDoorAnD
namespace Go.Proofs.YtmoeoomlggjaaaaGreatDoor
open Go.RowKit Go.Maps

/-- an amendment stays where a row of pointers grows -/
theorem AmAt.grown {w w' : World} {a M N : Nat} {f : Am} {v : Value} {base n : Nat} {xs : List Value} (h : AmAt w a M f N) (hg : w.grownBy w' v.ownBlock) (ho : w.ownsRow base 30 1 v n xs) : AmAt w' a M f N := by
  obtain ⟨_, hh | ⟨g, cap, cur, hv, _, hb, _⟩⟩ := ho
  · rw [hh.1] at hg
    exact h.step ⟨hg.os, hg.tape, hg.output, hg.size, fun k hk => hg.block k hk (by simp [Value.ownBlock])⟩
  · subst hv
    have hg' : w.grownBy w' (some g) := hg
    have hne : ∀ {b : Nat} {cs : Array Value} {t : TypeId} {z : Nat × Nat}, w.heap[b]? = some (.cells cs t z) → t ≠ 30 → w'.heap[b]? = some (.cells cs t z) := fun {b cs t z} hc ht => (hg'.block b (Array.getElem?_eq_some_iff.1 hc).1 (fun e => by
      injection e with e; subst e
      rw [hb] at hc
      injection hc with hc
      injection hc with _ hc
      exact ht hc.symm)).trans hc
    obtain ⟨D, h1, h2, h3⟩ := h.own
    obtain ⟨es, k, hm⟩ := own_isMap h1
    have hMg : M ≠ g := fun e => by subst e; rw [hb] at hm; cases hm
    exact ⟨hne h.box (by decide), D, h1.kept hg' (fun e => hMg (by injection e)), ⟨h2.isMap, h2.has, fun x c e => by
      obtain ⟨q1, q2, gb, q3, q4⟩ := h2.at' x c e
      exact ⟨q1, q2, gb, q3, hne q4 (by decide)⟩⟩, h3⟩

/-- rows of changes, as a row holds them -/
abbrev Gr := List Ch × Option Addr × Nat
def grL (x : Gr) : List Value := [.slice x.2.1 x.1.length x.2.2]
theorem grL_len (x : Gr) : (grL x).length = 1 := rfl
/-- pointers to amendments; their maps -/
def ptL (p : Nat × Nat) : List Value := [.pointer (some ⟨p.1, 0, none⟩)]
theorem ptL_len (p : Nat × Nat) : (ptL p).length = 1 := rfl
def GoodAt (w : World) (gs : List Gr) (ps : List (Nat × Nat)) : Prop := ∀ (k : Nat) (x : Gr) (p : Nat × Nat), gs[k]? = some x → ps[k]? = some p → (∀ c ∈ x.1, mayE c = none) ∧ ∃ N, AmAt w p.1 p.2 (makeF x.1) N ∧ N ≤ x.1.length
structure GoodR (gs : List Gr) (e : Ending) (w' : World) : Prop where
  ex : e = .returned (.tuple #[.slice none 0 0, .bool false]) ∨ ∃ A c ps, ps.length = gs.length ∧ e = .returned (.tuple #[.slice A gs.length c, .bool true]) ∧ RowAt ptL 1 w' w'.heap.size A ps ∧ GoodAt w' gs ps
theorem infoP : (Tryz.prog.info? 30).map (fun i => (i.zero, i.size, i.bytes)) = some (some (.pointer none), 1, 8) := by kernel_rfl

set_option maxRecDepth 100000 in
set_option maxHeartbeats 8000000 in
theorem good_any (gs : List Gr) (A : Option Addr) (cp : Nat) (E : Nat → Addr) (m : Int) (w : World) (hl : RowAt grL 1 w w.heap.size A gs) (hr : ∀ x ∈ gs, RowAt chL 4 w w.heap.size x.2.1 x.1 ∧ x.1.length ≤ 500 ∧ ∀ c ∈ x.1, InC c) (hn : gs.length ≤ 100) (hE : Env LA E w) (hm : w.cell? ⟨4, 0, none⟩ = some (.int .i64 m)) :
    Calls Tryz.prog 17 #[.slice A gs.length cp] w fun e w' => GoodR gs e w' ∧ Below w.heap.size w w' := by
  obtain ⟨inf0, hi, jz0, jz1, jz2⟩ := info_parts infoP
  have HL := Lib.hid hl
  have HR := Lib.hid hr
  have HE := Lib.hid hE
  have HM := Lib.hid hm
  clear hl hr hE hm
  go_enter Tryz.func17, Tryz.ntmps17
  go_wp2_with fail
  go_loopw [4, 5] (fun u i wr => ∃ (k : Nat) (ps : List (Nat × Nat)), k ≤ gs.length ∧ i = .int .i64 k ∧ Hid (Own ptL 1 30 w.heap.size wr u ps) ∧ ps.length = k ∧ Hid (GoodAt wr gs ps) ∧ Below w.heap.size w wr) (fun _ i _ => gs.length - (intOf i).toNat)
  case atStart => exact ⟨0, [], Nat.zero_le _, rfl, Lib.hid Own.nil, rfl, Lib.hid (fun k x p _ h => by simp at h), Below.refl _ _⟩
  case round =>
    obtain ⟨k, ps, hk, rfl, HROW, hpk, HG, hwr⟩ := hrel
    have z0 := hwr.size
    by_cases hlt : k < gs.length
    · obtain ⟨x, hx⟩ : ∃ x, gs[k]? = some x := ⟨gs[k], List.getElem?_eq_getElem hlt⟩
      obtain ⟨g, off, rfl, hg, hc⟩ := row_step HL.out hwr k x hx
      have c0 : wr.cell? ⟨g, off + k, none⟩ = some (.slice x.2.1 x.1.length x.2.2) := by have := hc 0 _ rfl; simpa using this
      obtain ⟨h1, h2, h3⟩ := HR.out x (List.mem_of_getElem? hx)
      have HX := Lib.hid hx
      have HC := Lib.hid (copyC_any x.1 x.2.1 x.2.2 wr (row_step h1 hwr) (by omega))
      have HI3 := Lib.hid h3
      have hlt2 : (k : Int) < (gs.length : Int) := by omega
      clear hc h1 h3 hx
      go_wp2_with fail
      refine HC.out.mono ?_
      rintro e w1 ⟨⟨v1, rfl, hown1⟩, hb1⟩
      obtain ⟨A1, c1, rfl, hr1, _, _⟩ := own_line (fun x _ => chL_len x) hown1
      have hw1 := stepH hwr hb1
      have HMK := Lib.hid (make_any x.1 A1 c1 E m w1 hr1 h2 HI3.out (HE.out.below hw1) (cell_at HM.out hw1))
      clear hown1 hr1 HC c0
      go_wp2_with fail
      refine HMK.out.mono ?_
      rintro e w2 ⟨hmk, hb2⟩
      have hb2' : Below wr.heap.size wr w2 := stepH hb1 hb2
      have hw2 := stepH hwr hb2'
      have z2 := hb2'.size
      have HRW := Lib.hid (HROW.out.below hb2')
      have HG2 : Hid (GoodAt w2 gs ps) := Lib.hid (fun k x p h1 h2 => by
        obtain ⟨q1, N, q2, q3⟩ := HG.out k x p h1 h2
        exact ⟨q1, N, q2.step hb2', q3⟩)
      clear HMK hb1 hb2 hw1
      rcases hmk with ⟨hall, a, Ma, Na, rfl, ha, hna, _, _⟩ | ⟨_, g', _, rfl⟩
      · have HA := Lib.hid ha
        have HALL := Lib.hid hall
        clear ha hall
        go_wp2_with (at_builtin; go_must (refine wpList_append_own _ rfl (.tmp 29) (.tmp 31) 42 rfl w.heap.size 30 inf0 _ 1 8 Tryz.underlying42 hi jz0 jz1 jz2 rfl (by decide) _ ps.length _ rfl (own_below HRW.out (by (repeat' (first | with_reducible exact Below.refl _ _ | with_reducible assumption | with_reducible refine Below.drew ?_ | with_reducible refine below_drewN ?_ _ | with_reducible refine Below.setCell ?_ ?_ _ | with_reducible refine Below.alloc ?_ ?_ _ | omega | (simp; done) | (simp; omega))))) ⟨w2.heap.size, 0, none⟩ 1 1 [.pointer (some ⟨a, 0, none⟩)] rfl rfl (World.news_of_block (cs := #[.pointer (some ⟨a, 0, none⟩)]) (blk_new rfl)) (by simp [Value.oneCell']) (by unfold maxLen; omega) (by omega) (by simp; omega) ?_); intro v' w9 hown9 hgrow9 _)
        go_roundw
        case rel =>
          refine ⟨k + 1, ps ++ [(a, Ma)], by omega, by go_num, Lib.hid (Own.snoc hown9 rfl rfl), by simp; omega, Lib.hid (fun j y p hy hp => ?_), Below.grown (Below.alloc hw2 (by omega) _) hgrow9 (by simp; omega) (fun g hg => by have := HRW.out.lt g hg; omega)⟩
          rcases Nat.lt_or_ge j ps.length with h | h
          · rw [List.getElem?_append_left h] at hp
            obtain ⟨q1, N, q2, q3⟩ := HG2.out j y p hy hp
            exact ⟨q1, N, (q2.step (by (repeat' (first | with_reducible exact Below.refl _ _ | with_reducible assumption | with_reducible refine Below.drew ?_ | with_reducible refine below_drewN ?_ _ | with_reducible refine Below.setCell ?_ ?_ _ | with_reducible refine Below.alloc ?_ ?_ _ | omega | (simp; done) | (simp; omega))))).grown hgrow9 (own_below HRW.out (by (repeat' (first | with_reducible exact Below.refl _ _ | with_reducible assumption | with_reducible refine Below.drew ?_ | with_reducible refine below_drewN ?_ _ | with_reducible refine Below.setCell ?_ ?_ _ | with_reducible refine Below.alloc ?_ ?_ _ | omega | (simp; done) | (simp; omega))))), q3⟩
          · have hj : j = k := by
              rw [List.getElem?_append_right h] at hp
              have := (List.getElem?_eq_some_iff.1 hp).1
              simp at this
              omega
            subst hj
            rw [List.getElem?_append_right h, show j - ps.length = 0 by omega] at hp
            simp at hp
            subst hp
            rw [HX.out] at hy
            injection hy with hy
            subst hy
            exact ⟨HALL.out, Na, (HA.out.step (by (repeat' (first | with_reducible exact Below.refl _ _ | with_reducible assumption | with_reducible refine Below.drew ?_ | with_reducible refine below_drewN ?_ _ | with_reducible refine Below.setCell ?_ ?_ _ | with_reducible refine Below.alloc ?_ ?_ _ | omega | (simp; done) | (simp; omega))))).grown hgrow9 (own_below HRW.out (by (repeat' (first | with_reducible exact Below.refl _ _ | with_reducible assumption | with_reducible refine Below.drew ?_ | with_reducible refine below_drewN ?_ _ | with_reducible refine Below.setCell ?_ ?_ _ | with_reducible refine Below.alloc ?_ ?_ _ | omega | (simp; done) | (simp; omega))))), hna⟩
        case measure => simp [intOf] <;> omega
      · have hne := fun W => eql_nil (E g') W
        have HR : Hid (GoodR gs (.returned (.tuple #[.slice none 0 0, .bool false])) w2) := Lib.hid ⟨.inl rfl⟩
        rw [show errA E (some g') = .iface 184 (.pointer (some (E g'))) from rfl]
        go_wp2_with fail
        go_ret2
        exact ⟨HR.out, hw2⟩
    · obtain rfl : k = gs.length := by omega
      have hlt2 : ¬ (gs.length : Int) < (gs.length : Int) := by omega
      obtain ⟨A1, c1, rfl, hr1, _, _⟩ := own_line (fun x _ => ptL_len x) HROW.out
      have HR1 := Lib.hid hr1
      rw [hpk]
      clear hr1
      go_wp2_with fail
      go_ret2
      exact ⟨⟨.inr ⟨A1, c1, ps, hpk, rfl, HR1.out, HG.out⟩⟩, hwr⟩
end Go.Proofs.YtmoeoomlggjaaaaGreatDoor
