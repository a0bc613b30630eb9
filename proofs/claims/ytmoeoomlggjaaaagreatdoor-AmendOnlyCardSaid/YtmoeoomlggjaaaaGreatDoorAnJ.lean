/- Only: the plain law; the law's closure; the walk. -/
import Derived.Test.YtmoeoomlggjaaaaGreatDoorAnH
namespace Go.Proofs.YtmoeoomlggjaaaaGreatDoor
open Go.RowKit Go.Maps

/-- maps, changes and amendments stay -/
structure KeepA (w w' : World) : Prop where
  map : ∀ (b : Nat) (es : Array MapEntry) (k : Nat), w.heap[b]? = some (Obj.map es k) → w'.heap[b]? = some (Obj.map es k)
  ch : ∀ (b : Nat) (cs : Array Value) (z : Nat × Nat), w.heap[b]? = some (Obj.cells cs 41 z) → w'.heap[b]? = some (Obj.cells cs 41 z)
  am : ∀ (b : Nat) (cs : Array Value) (z : Nat × Nat), w.heap[b]? = some (Obj.cells cs 81 z) → w'.heap[b]? = some (Obj.cells cs 81 z)
theorem own_heap {w w' : World} {M n : Nat} {k : TypeId} {D : DataW Value} (h : w.ownsMap Tryz.prog k RV M n D) (hk : KeepA w w') : w'.ownsMap Tryz.prog k RV M n D := by
  obtain ⟨es, c, hb, F, hs, rfl⟩ := h
  exact ⟨es, c, hk.map _ _ _ hb, F, hs, rfl⟩
theorem AmAt.keepA {w w' : World} {a M N : Nat} {f : Am} (h : AmAt w a M f N) (hk : KeepA w w') : AmAt w' a M f N where
  box := hk.am _ _ _ h.box
  own := by
    obtain ⟨D, h1, h2, h3⟩ := h.own
    exact ⟨D, own_heap h1 hk, ⟨h2.isMap, h2.has, fun x c e => by
      obtain ⟨q1, q2, g, q3, q4⟩ := h2.at' x c e
      exact ⟨q1, q2, g, q3, hk.ch _ _ _ q4⟩⟩, h3⟩
theorem KeepA.below {w w' : World} (h : Below w.heap.size w w') : KeepA w w' :=
  ⟨fun b _ _ e => (h.block b (Array.getElem?_eq_some_iff.1 e).1).trans e, fun b _ _ e => (h.block b (Array.getElem?_eq_some_iff.1 e).1).trans e, fun b _ _ e => (h.block b (Array.getElem?_eq_some_iff.1 e).1).trans e⟩
theorem KeepA.trans {w w' w'' : World} (h : KeepA w w') (h' : KeepA w' w'') : KeepA w w'' :=
  ⟨fun b _ _ e => h'.map _ _ _ (h.map _ _ _ e), fun b _ _ e => h'.ch _ _ _ (h.ch _ _ _ e), fun b _ _ e => h'.am _ _ _ (h.am _ _ _ e)⟩
/-- a row of texts grows -/
theorem KeepA.grown {w w' : World} {v : Value} {base n : Nat} {xs : List Value} {t : TypeId} (hg : w.grownBy w' v.ownBlock) (ho : w.ownsRow base t 1 v n xs) (h1 : t ≠ 41) (h2 : t ≠ 81) : KeepA w w' := by
  obtain ⟨_, hh | ⟨g, cap, cur, hv, _, hb, _⟩⟩ := ho
  · rw [hh.1] at hg
    exact KeepA.below ⟨hg.os, hg.tape, hg.output, hg.size, fun k hk => hg.block k hk (by simp [Value.ownBlock])⟩
  · subst hv
    have hg' : w.grownBy w' (some g) := hg
    have hne : ∀ b o, w.heap[b]? = some o → b ≠ g → w'.heap[b]? = some o := fun b o e hb => (hg'.block b (Array.getElem?_eq_some_iff.1 e).1 (fun q => hb (by injection q))).trans e
    refine ⟨fun b _ _ e => hne _ _ e ?_, fun b _ _ e => hne _ _ e ?_, fun b _ _ e => hne _ _ e ?_⟩
    · rintro rfl; rw [hb] at e; cases e
    · rintro rfl; rw [hb] at e; injection e with e; injection e with _ e; exact h1 e
    · rintro rfl; rw [hb] at e; injection e with e; injection e with _ e; exact h2 e
theorem KeepA.setBox {w : World} {g : Nat} {cs : Array Value} {t : TypeId} {z : Nat × Nat} (h : w.heap[g]? = some (.cells cs t z)) (o : Nat) (v : Value) (h1 : t ≠ 41) (h2 : t ≠ 81) : KeepA w (w.setCell ⟨g, o, none⟩ v) := by
  have hne : ∀ b x, w.heap[b]? = some x → b ≠ g → (w.setCell ⟨g, o, none⟩ v).heap[b]? = some x := fun b x e hb => by
    rw [← e]
    exact Below.heap_setCell _ _ _ _ hb
  refine ⟨fun b _ _ e => hne _ _ e ?_, fun b _ _ e => hne _ _ e ?_, fun b _ _ e => hne _ _ e ?_⟩
  · rintro rfl; rw [h] at e; cases e
  · rintro rfl; rw [h] at e; injection e with e; injection e with _ e; exact h1 e
  · rintro rfl; rw [h] at e; injection e with e; injection e with _ e; exact h2 e
/-- below z only the blocks of L turn -/
structure OnlyB (z : Nat) (L : List Nat) (w w' : World) : Prop where
  os : w'.os = w.os
  tape : w'.tape = w.tape
  output : w'.output = w.output
  size : w.heap.size ≤ w'.heap.size
  block : ∀ k, k < z → k ∉ L → w'.heap[k]? = w.heap[k]?
theorem OnlyL.andB {L L' : List Nat} {w u u' : World} (h : OnlyL L w u) (h' : OnlyB w.heap.size L' u u') (hs : ∀ k ∈ L', k ∈ L) : OnlyL L w u' :=
  ⟨h'.os.trans h.os, h'.tape.trans h.tape, h'.output.trans h.output, Nat.le_trans h.size h'.size, fun k hk hn => (h'.block k hk (fun e => hn (hs k e))).trans (h.block k hk hn)⟩

/-- what of an amendment has names up to u -/
def onlyF (u : ByteArray) (f : Am) : Am := fun y => if leB y u.data.toList = true then f y else none
def stepO (u : ByteArray) (f g : Am) (k : List UInt8) : Am := if leB k u.data.toList = true then (match f k with | some c => putA g c | none => g) else g
theorem stepO_at (u : ByteArray) (f : Am) (hf : ∀ y c, f y = some c → nmb c = y) (y : List UInt8) : ∀ (ks : List (List UInt8)) (g : Am), (ks.foldl (stepO u f) g) y = if y ∈ ks ∧ leB y u.data.toList = true ∧ (f y).isSome = true then f y else g y
  | [], g => by simp
  | k :: r, g => by
    rw [List.foldl_cons, stepO_at u f hf y r]
    by_cases h1 : y ∈ r ∧ leB y u.data.toList = true ∧ (f y).isSome = true
    · rw [if_pos h1, if_pos ⟨List.mem_cons_of_mem _ h1.1, h1.2⟩]
    · rw [if_neg h1]
      unfold stepO
      by_cases hy : y = k
      · subst hy
        by_cases hl : leB y u.data.toList = true
        · rw [if_pos hl]
          cases hq : f y with
          | none => simp
          | some c =>
            rw [if_pos ⟨List.mem_cons_self .., hl, rfl⟩]
            unfold putA
            exact if_pos (hf y c hq).symm
        · rw [if_neg hl, if_neg (fun q => hl q.2.1)]
      · have h2 : ¬ (y ∈ k :: r ∧ leB y u.data.toList = true ∧ (f y).isSome = true) := fun q => h1 ⟨(List.mem_cons.1 q.1).resolve_left hy, q.2⟩
        rw [if_neg h2]
        split
        · cases hq : f k with
          | none => rfl
          | some c => exact if_neg (by rw [hf k c hq]; exact hy)
        · rfl
theorem stepO_all {u : ByteArray} {f : Am} {ks : List (List UInt8)} (hf : ∀ y c, f y = some c → nmb c = y) (h : SK f ks) : ks.foldl (stepO u f) (fun _ => none) = onlyF u f := by
  funext y
  rw [stepO_at u f hf]
  unfold onlyF
  by_cases hl : leB y u.data.toList = true
  · rw [if_pos hl]
    cases hq : f y with
    | none => simp
    | some c => rw [if_pos ⟨(h.mem y).2 (by rw [hq]; rfl), hl, rfl⟩]
  · rw [if_neg hl, if_neg (fun q => hl q.2.1)]

theorem le_law (x y : ByteArray) : (Op.bytesLess x.toList y.toList || x.toList == y.toList) = leB x.data.toList y.data.toList := by
  rw [ByteArray.toList_eq, ByteArray.toList_eq, bytesLess_eq]
  unfold leB
  rw [Bool.eq_iff_iff]
  simp only [Bool.or_eq_true, decide_eq_true_eq, beq_iff_eq]
  exact List.le_iff_lt_or_eq.symm
theorem own_setA {w : World} {e base n g : Nat} {size : Nat} {v x : Value} {xs : List Value} (h : w.ownsRow base e size v n xs) (hg : ∀ k, v.ownBlock = some k → k ≠ g) : (w.setCell ⟨g, 0, none⟩ x).ownsRow base e size v n xs := by
  obtain ⟨h0, h1 | ⟨k, cap, cur, hv, hb, hh, h2⟩⟩ := h
  · exact ⟨h0, .inl h1⟩
  · refine ⟨h0, .inr ⟨k, cap, cur, hv, hb, (Below.heap_setCell _ _ _ _ ?_).trans hh, h2⟩⟩
    subst hv
    exact hg k rfl

set_option maxRecDepth 100000 in
set_option maxHeartbeats 4000000 in
theorem ask_any (s u : ByteArray) (ka kb : Nat) (L : List ByteArray) (v : Value) (zs : Nat) (b : Bool) (w : World) (ha : w.heap[ka]? = some (.cells #[v] 50 (0, 0))) (hb : w.heap[kb]? = some (.cells #[.string u] 9 (0, 0))) (hown : Own encS 1 9 zs w v L) (hz : ka < zs) (hzb : kb < zs) (hz2 : zs ≤ w.heap.size) (hl : L.length ≤ 1000) (hle : (Op.bytesLess s.toList u.toList || s.toList == u.toList) = b) :
    Calls Tryz.prog 31 #[.string s, .pointer (some ⟨ka, 0, none⟩), .pointer (some ⟨kb, 0, none⟩)] w fun e w' => e = .returned (.bool b) ∧ (∃ v', w'.heap[ka]? = some (.cells #[v'] 50 (0, 0)) ∧ Own encS 1 9 zs w' v' (L ++ [s])) ∧ KeepA w w' ∧ OnlyB zs [ka] w w' := by
  obtain ⟨inf0, hi, jz0, jz1, jz2⟩ := info_parts infoS
  have hab : ka ≠ kb := by rintro rfl; rw [hb] at ha; injection ha with ha; injection ha with _ ha; exact absurd ha (by decide)
  have hba : kb ≠ ka := fun e => hab e.symm
  have HA := Lib.hid ha
  have HB := Lib.hid hb
  have HO := Lib.hid hown
  have cA := cellH HA
  have cB := cellH HB
  have fA := frozH HA
  have hka : ka < w.heap.size := by omega
  have hkb : kb < w.heap.size := by omega
  clear ha hb hown
  go_enter Tryz.func31, Tryz.ntmps31
  go_wp2_with (at_builtin; go_must (refine wpList_append_lies _ rfl (.tmp 5) (.tmp 7) 50 rfl zs 9 inf0 _ 1 16 Tryz.underlying50 hi jz0 jz1 jz2 rfl (by decide) _ L.length _ rfl (own_below HO.out (by (repeat' (first | with_reducible exact Below.refl _ _ | with_reducible assumption | with_reducible refine Below.drew ?_ | with_reducible refine below_drewN ?_ _ | with_reducible refine Below.setCell ?_ ?_ _ | with_reducible refine Below.alloc ?_ ?_ _ | omega | (simp; done) | (simp; omega))))) ⟨w.heap.size, 0, none⟩ 1 1 [.string s] rfl rfl (World.news_of_block (cs := #[.string s]) (blk_new rfl)) (by simp [Value.oneCell']) (by decide) (by unfold maxLen; omega) (by omega) (by simp; omega) _ rfl ?_); intro g9 c9 w9 hown9 hgrow9 hat9 hlt9; have hfar : ∀ k, k < zs → some k ≠ v.ownBlock := (fun k hk e => by have := (HO.out.lt k e.symm).1; omega); have A9 : Hid (w9.heap[ka]? = some (.cells #[v] 50 (0, 0))) := Lib.hid ((hgrow9.block ka (by simp; omega) (hfar ka hz)).trans (blk_old HA.out)); have B9 : Hid (w9.heap[kb]? = some (.cells #[.string u] 9 (0, 0))) := Lib.hid ((hgrow9.block kb (by simp; omega) (hfar kb hzb)).trans (blk_old HB.out)); have cA9 := cellH A9; have cB9 := cellH B9; have fA9 := frozH A9; have lA9 := lt_of_H A9; have lB9 := lt_of_H B9; have HG9 := Lib.hid hgrow9; have HO9 := Lib.hid hown9; have HFR := Lib.hid hfar; clear hgrow9 hown9 hfar)
  go_ret
  refine ⟨rfl, ⟨_, setBox A9.out _, Own.snoc (own_setA HO9.out (fun k hk e => by have := (HO9.out.lt k hk).1; omega)) rfl rfl⟩, ?_, ?_⟩
  · exact (KeepA.below (w' := w.alloc (.cells #[.string s] 9)) (by (repeat' (first | with_reducible exact Below.refl _ _ | with_reducible assumption | with_reducible refine Below.drew ?_ | with_reducible refine below_drewN ?_ _ | with_reducible refine Below.setCell ?_ ?_ _ | with_reducible refine Below.alloc ?_ ?_ _ | omega | (simp; done) | (simp; omega))))).trans ((KeepA.grown HG9.out (own_below HO.out (by (repeat' (first | with_reducible exact Below.refl _ _ | with_reducible assumption | with_reducible refine Below.drew ?_ | with_reducible refine below_drewN ?_ _ | with_reducible refine Below.setCell ?_ ?_ _ | with_reducible refine Below.alloc ?_ ?_ _ | omega | (simp; done) | (simp; omega))))) (by decide) (by decide)).trans (KeepA.setBox A9.out 0 _ (by decide) (by decide)))
  · refine ⟨HG9.out.os, HG9.out.tape, HG9.out.output, ?_, fun k hk hn => ?_⟩
    · have := HG9.out.size
      simp at this ⊢
      omega
    · exact (Below.heap_setCell _ _ _ _ (by simpa using hn)).trans ((HG9.out.block k (by simp; omega) (HFR.out k hk)).trans (Below.heap_alloc _ _ k (by omega)))

/-- what Only answers -/
structure OnlyR (a M N : Nat) (f : Am) (u : ByteArray) (ka : Nat) (w : World) (e : Ending) (w' : World) : Prop where
  ex : ∃ lo Ml Nl ks v, e = .returned (.pointer (some ⟨lo, 0, none⟩)) ∧ AmAt w' lo Ml (onlyF u f) Nl ∧ Nl ≤ N ∧ SK f ks ∧ ks.length = N ∧ w'.heap[ka]? = some (.cells #[v] 50 (0, 0)) ∧ Own encS 1 9 w.heap.size w' v (ks.map mkN)
  a : AmAt w' a M f N
  only : OnlyL [ka] w w'

set_option maxRecDepth 100000 in
set_option maxHeartbeats 8000000 in
theorem only_any (a M N : Nat) (f : Am) (u : ByteArray) (ka kb : Nat) (w : World) (h : AmAt w a M f N) (hN : N ≤ 500) (ha : w.heap[ka]? = some (.cells #[.slice none 0 0] 50 (0, 0))) (hb : w.heap[kb]? = some (.cells #[.string u] 9 (0, 0))) :
    Calls Tryz.prog 30 #[.pointer (some ⟨a, 0, none⟩), .func (.func 31) #[] #[.pointer (some ⟨ka, 0, none⟩), .pointer (some ⟨kb, 0, none⟩)]] w fun e w' => OnlyR a M N f u ka w e w' := by
  have HH := Lib.hid h
  have HA := Lib.hid ha
  have HB := Lib.hid hb
  have hab : ka ≠ kb := by rintro rfl; rw [hb] at ha; injection ha with ha; injection ha with _ ha; exact absurd ha (by decide)
  have hka := lt_of_H HA
  have hkb := lt_of_H HB
  have hlt0 := h.lt
  have hnm : ∀ y c, f y = some c → nmb c = y := by
    obtain ⟨D, _, hr, _⟩ := h.own
    exact fun y c e => (hr.at' y c e).1
  have HNM := Lib.hid hnm
  have gf : ∀ args w, (callFunc 31 args).run Tryz.prog w = .ok (.enter 31 args) w := enters_of Tryz.func31 (by kernel_rfl) rfl
  clear h ha hb hnm
  go_enter Tryz.func30, Tryz.ntmps30
  go_wp2_with fail
  refine (none_any w).mono ?_
  rintro e w1 ⟨lo, Mo, rfl, hlo, hl1, hl2, hb1⟩
  have HLO := Lib.hid hlo
  have hlt1 := hlo.lt
  have z1 := hb1.size
  clear hlo
  go_wp2_with fail
  refine (names_any a M N f w1 (HH.out.step hb1) (by omega)).mono ?_
  rintro e w2 ⟨⟨A2, c2, ks, rfl, hsk, hkl, hr2, hfar⟩, hb2⟩
  have hw2 : Below w.heap.size w w2 := stepH hb1 hb2
  have HSK := Lib.hid hsk
  have HR2 := Lib.hid hr2
  have HFA := Lib.hid hfar
  have HLO := Lib.hid (HLO.out.step hb2)
  have HA2 := keepH hw2 HA.out
  have HB2 := keepH hw2 HB.out
  have HH2 := Lib.hid (HH.out.step hw2)
  have z2 := hb2.size
  clear hsk hr2 hfar hb2
  go_wp2_with fail
  go_loopw [12] (fun i wr => ∃ (k No : Nat) (v : Value), k ≤ N ∧ i = .int .i64 k ∧ No ≤ k ∧ Hid (AmAt wr a M f N) ∧ Hid (AmAt wr lo Mo ((ks.take k).foldl (stepO u f) (fun _ => none)) No) ∧ Hid (wr.heap[ka]? = some (.cells #[v] 50 (0, 0))) ∧ Hid (Own encS 1 9 w2.heap.size wr v ((ks.take k).map mkN)) ∧ OnlyL [ka, Mo] w2 wr) (fun i _ => N - (intOf i).toNat)
  case atStart => exact ⟨0, 0, _, Nat.zero_le _, rfl, Nat.le_refl _, HH2, HLO, HA2, Lib.hid Own.nil, OnlyL.refl _ _⟩
  case round =>
    obtain ⟨k, No, v, hk, rfl, hNo, HAr, HLr, HBr, HOr, ho⟩ := hrel
    have z4 := ho.size
    by_cases hlt : k < N
    · have hlt2 : (k : Int) < (N : Int) := by omega
      obtain ⟨x, hx⟩ : ∃ x, ks[k]? = some x := ⟨ks[k]'(by omega), List.getElem?_eq_getElem _⟩
      obtain ⟨c, hc⟩ := Option.isSome_iff_exists.1 ((HSK.out.mem x).1 (List.mem_of_getElem? hx))
      have hcx := HNM.out x c hc
      have hcn : c.name = mkN x := by rw [← hcx]; exact (mkN_name _).symm
      obtain ⟨g, off, rfl, hg, hcc⟩ := HR2.out k x hx
      have hgf : w1.heap.size ≤ g := HFA.out _ rfl
      have c0 : wr.cell? ⟨g, off + k, none⟩ = some (.string c.name) := by
        have hne : g ∉ [ka, Mo] := by simp; omega
        have := (World.cell?_of_block (w := w2) (w' := wr) (a := ⟨g, off + k * 1 + 0, none⟩) (ho.block g hg hne)).trans (hcc 0 _ rfl)
        rw [← hcx, show Proofs.encStr (nmb c) = .string c.name by simp [Proofs.encStr, nmb]] at this
        simpa using this
      have BK : wr.heap[kb]? = some (.cells #[.string u] 9 (0, 0)) := (ho.block kb (by omega) (by simp; omega)).trans HB2.out
      have HX := Lib.hid hx
      have HC := Lib.hid hc
      have HCN := Lib.hid hcn
      have HLE : Hid ((Op.bytesLess c.name.toList u.toList || c.name.toList == u.toList) = leB x u.data.toList) := Lib.hid (by rw [le_law, ← hcx]; rfl)
      have hll : ((ks.take k).map mkN).length ≤ 1000 := by rw [List.length_map, List.length_take]; omega
      have HAS := Lib.hid (fun (b : Bool) (hle : (Op.bytesLess c.name.toList u.toList || c.name.toList == u.toList) = b) => ask_any c.name u ka kb ((ks.take k).map mkN) v w2.heap.size b wr HBr.out BK HOr.out (by omega) (by omega) z4 hll hle)
      clear hx hc hcc hg hll BK hcn hcx
      cases hq : leB x u.data.toList with
      | false =>
        rw [hq] at HLE
        have HQ := Lib.hid hq
        clear hq
        go_wp2_with (go_at_fn gf)
        refine (HAS.out false HLE.out).mono ?_
        rintro e w3 ⟨rfl, ⟨v', hA3, hO3⟩, hKA, hOB⟩
        have HA3 := Lib.hid hA3
        have HO3 := Lib.hid hO3
        have HAm3 := Lib.hid (HAr.out.keepA hKA)
        have HLo3 := Lib.hid (HLr.out.keepA hKA)
        have ho3 : OnlyL [ka, Mo] w2 w3 := ho.andB hOB (by simp)
        clear hA3 hO3 hKA hOB
        go_wp2_with fail
        go_roundw
        case rel => exact ⟨k + 1, No, v', by omega, by go_num, by omega, HAm3, Lib.hid (by rw [foldl_snoc HX.out]; unfold stepO; rw [if_neg (by rw [HQ.out]; simp)]; exact HLo3.out), HA3, Lib.hid (by rw [take_snoc HX.out, List.map_append]; simpa [HCN.out] using HO3.out), ho3⟩
        case measure => simp [intOf] <;> omega
      | true =>
        rw [hq] at HLE
        have HQ := Lib.hid hq
        clear hq
        go_wp2_with (go_at_fn gf)
        refine (HAS.out true HLE.out).mono ?_
        rintro e w3 ⟨rfl, ⟨v', hA3, hO3⟩, hKA, hOB⟩
        have HA3 := Lib.hid hA3
        have HO3 := Lib.hid hO3
        have HAm3 := Lib.hid (HAr.out.keepA hKA)
        have HLo3 := Lib.hid (HLr.out.keepA hKA)
        have ho3 : OnlyL [ka, Mo] w2 w3 := ho.andB hOB (by simp)
        clear hA3 hO3 hKA hOB
        have hbd : Below w3.heap.size w3 w3.drew := (Below.refl _ _).drew
        have HAd := Lib.hid (HAm3.out.step hbd)
        have HLd := Lib.hid (HLo3.out.step hbd)
        obtain ⟨D, hD1, hD2, hD3⟩ := HAd.out.own
        obtain ⟨_, hcs, gb, hbx, hrunF⟩ := hD2.find HC.out
        have hrunK := (hrunF w3.drew N M hD1).2
        obtain ⟨w6, hrunU, ⟨N6, hA6, hN6⟩, hg6⟩ := HLd.out.put (c := c) hcs hbx (by omega)
        have hm5 := HLd.out.isMap
        have hMne : M ≠ Mo := by omega
        have x0 : w3.drew.cell? ⟨a, 0, none⟩ = some (.map (some M)) := cellH (Lib.hid HAd.out.box) 0
        have x1 : w3.drew.cell? ⟨lo, 0, none⟩ = some (.map (some Mo)) := cellH (Lib.hid HLd.out.box) 0
        have d0 : w6.cell? ⟨a, 0, none⟩ = some (.map (some M)) := cellH (Lib.hid (heap_turn HAd.out.box hg6 hm5)) 0
        have d1 : w6.cell? ⟨lo, 0, none⟩ = some (.map (some Mo)) := cellH (Lib.hid (heap_turn HLd.out.box hg6 hm5)) 0
        have HA6 : Hid (w6.heap[ka]? = some (.cells #[v'] 50 (0, 0))) := Lib.hid (heap_turn (keepH hbd HA3.out).out hg6 hm5)
        have HO6 : Hid (Own encS 1 9 w2.heap.size w6 v' ((ks.take k).map mkN ++ [c.name])) := Lib.hid ((HO3.out.below hbd).kept hg6 (by
          cases hv : v'.ownBlock with
          | none => exact .inl rfl
          | some q =>
            right
            intro e
            injection e with e
            have := (HO3.out.lt q hv).1
            omega))
        have HAm6 := Lib.hid (HAd.out.only hm5 hMne (only_turn hg6))
        have HLo6 := Lib.hid hA6
        have ho6 : OnlyL [ka, Mo] w2 w6 := (ho3.trans (only_step hbd)).trans ⟨hg6.os, hg6.tape, hg6.output, hg6.size, fun k hk hn => hg6.block k hk (fun e => by injection e with e; subst e; simp at hn)⟩
        clear hD1 hD2 hD3 hrunF hbx hA6 hg6 hm5 HAd HLd
        go_wp2_with fail
        go_region_held3 (fun w' => w'.cell? ⟨a, 0, none⟩ = some (.map (some M)) ∧ w'.cell? ⟨lo, 0, none⟩ = some (.map (some Mo))) (first | with_reducible exact ⟨x0, x1⟩ | with_reducible exact ⟨d0, d1⟩)
          (fail)
        go_wp2_with fail
        go_roundw
        case rel => exact ⟨k + 1, N6, v', by omega, by go_num, by omega, HAm6, Lib.hid (by rw [foldl_snoc HX.out]; unfold stepO; rw [if_pos HQ.out, HC.out]; exact HLo6.out), HA6, Lib.hid (by rw [take_snoc HX.out, List.map_append]; simpa [HCN.out] using HO6.out), ho6⟩
        case measure => simp [intOf] <;> omega
    · obtain rfl : k = N := by omega
      have hlt2 : ¬ (k : Int) < (k : Int) := by omega
      have HLE : Hid (AmAt wr lo Mo (onlyF u f) No) := Lib.hid (by
        have := HLr.out
        rw [List.take_of_length_le (by omega), stepO_all HNM.out HSK.out] at this
        exact this)
      have HOE : Hid (Own encS 1 9 w.heap.size wr v (ks.map mkN)) := Lib.hid (by
        have := HOr.out
        rw [List.take_of_length_le (by omega)] at this
        exact own_mono this (by omega))
      have hoE : OnlyL [ka] w wr := ⟨ho.os.trans hw2.os, ho.tape.trans hw2.tape, ho.output.trans hw2.output, by omega, fun i hi hn => (ho.block i (by omega) (by simp at hn ⊢; omega)).trans (hw2.block i hi)⟩
      clear HLr HOr
      go_wp2_with fail
      go_ret
      exact ⟨⟨lo, Mo, No, ks, v, rfl, HLE.out, hNo, HSK.out, hkl, HBr.out, HOE.out⟩, HAr.out, hoE⟩
end Go.Proofs.YtmoeoomlggjaaaaGreatDoor
