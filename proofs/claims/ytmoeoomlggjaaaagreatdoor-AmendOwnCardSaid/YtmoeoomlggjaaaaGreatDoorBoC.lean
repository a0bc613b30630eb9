/- AmendOwn: the law's walk. -/
import Derived.Test.YtmoeoomlggjaaaaGreatDoorBoB
namespace Go.Proofs.YtmoeoomlggjaaaaGreatDoor
section
open Go.RowKit Go.Maps

theorem own_ltA {w : World} {base e size n c : Nat} {A : Option Addr} {xs : List Value} (h : w.ownsRow base e size (.slice A n c) n xs) : ∀ q, A = some q → base ≤ q.block ∧ q.block < w.heap.size := fun q hq => by
  subst hq; exact h.lt _ rfl
theorem amtB_may {c : Ch} (h : mayE c = none) : (amtB c).size ≤ 100 := by
  cases hc : c.clear with
  | false => exact amtB_size (mayE_valid h hc)
  | true =>
    have hz : c.n = 0 ∧ c.d = 0 := by
      unfold mayE at h
      split at h
      · cases h
      · simpa using h
    unfold amtB
    rw [hz.1, hz.2, bts_size]
    unfold printL
    rw [if_neg (by decide)]
    simp only [List.length_append, List.length_cons]
    have := itoa_len (n := 0) (by omega) (by omega)
    omega
theorem own_blkA {A : Option Addr} {n c g : Nat} (h : (Value.slice A n c).ownBlock = some g) : ∃ q, A = some q ∧ q.block = g := by
  cases A with
  | none => cases h
  | some q => exact ⟨q, rfl, by injection h⟩
theorem own_apart {A B : Option Addr} {n c m d : Nat} {b : Nat} (hA : ∀ q, A = some q → q.block < b) (hB : ∀ q, B = some q → b ≤ q.block) : (Value.slice B m d).ownBlock = none ∨ (Value.slice B m d).ownBlock ≠ (Value.slice A n c).ownBlock := by
  cases B with
  | none => exact .inl rfl
  | some q =>
    right
    intro h
    obtain ⟨p, hp, e⟩ := own_blkA (g := q.block) (h.symm.trans rfl)
    have := hA p hp
    have := hB q rfl
    omega
/-- the block of a row, as a list -/
def blkL (A : Option Addr) : List Nat := (A.map (·.block)).toList
theorem AmFar.keepO {B : Nat} {w w' : World} {a M N : Nat} {f : Am} {A : Option Addr} (h : AmFar B w a M f N) (ho : OnlyL (blkL A) w w') (hL : ∀ q, A = some q → q.block < B) (ha : B ≤ a) (hM : B ≤ M) : AmFar B w' a M f N := by
  cases A with
  | none => exact h.step (OnlyL.all ho)
  | some q => exact h.keep (g := q.block) ho (fun k hk => by have := hL q rfl; simp at hk; omega) ha hM
theorem mem_blk {A : Option Addr} {k : Nat} (h : k ∈ blkL A) : ∃ q, A = some q ∧ q.block = k := by
  cases A with
  | none => simp [blkL] at h
  | some q => simp [blkL] at h; exact ⟨q, rfl, h.symm⟩
theorem blk_mem (g o : Nat) : g ∈ blkL (some ⟨g, o, none⟩) := by simp [blkL]
/-- a row of the call's own stays where blocks turn that are not its own -/
theorem own_keep {w w' : World} {base e size n : Nat} {v : Value} {xs : List Value} {L : List Nat} (h : w.ownsRow base e size v n xs) (ho : OnlyL L w w') (hn : ∀ g, v.ownBlock = some g → g ∉ L) : w'.ownsRow base e size v n xs := by
  obtain ⟨h1, h2 | ⟨g, cap, cur, e1, hb, hg, h3⟩⟩ := h
  · exact ⟨h1, .inl h2⟩
  · refine ⟨h1, .inr ⟨g, cap, cur, e1, hb, ?_, h3⟩⟩
    exact (ho.block g (Array.getElem?_eq_some_iff.1 hg).1 (hn g (by rw [e1]; rfl))).trans hg

set_option maxRecDepth 100000 in
set_option maxHeartbeats 32000000 in
theorem own25_any (x : List Ch) (l : List It) (A0 B0 : Option Addr) (c0 d0 : Nat) (E : Nat → Addr) (m : Int) (w : World) (hx : RowAt chL 4 w w.heap.size A0 x) (hl : RowAt itL 3 w w.heap.size B0 l) (hix : ∀ c ∈ x, InC c) (hil : ∀ c ∈ l, InI c) (hE : Env LA E w) (hT : PowT w) (hm : w.cell? ⟨4, 0, none⟩ = some (.int .i64 m)) :
    Calls Tryz.prog 4 #[.slice A0 x.length c0, .slice B0 l.length d0] w fun e w' => e = .returned (.bool true) ∧ Below w.heap.size w w' := by
  have HE := Lib.hid hE
  have HM := Lib.hid hm
  have HT := Lib.hid hT
  have RX := Lib.hid hx
  have RL := Lib.hid hl
  have IX := Lib.hid hix
  have IL := Lib.hid hil
  clear hE hm hT hx hl hix hil
  obtain ⟨infC, hiC, jc0, jc1, jc2⟩ := info_parts infoCh
  obtain ⟨infI, hiI, ji0, ji1, ji2⟩ := info_parts infoIt
  obtain ⟨infS, hiS, js0, js1, js2⟩ := info_parts infoS
  have HFI := Lib.hid (first25_any E m w HE.out HM.out)
  obtain ⟨fx, hfx⟩ : ∃ q, faultI l = q := ⟨_, rfl⟩
  have HFX := Lib.hid hfx
  clear hfx
  by_cases hx : (100 : Int) < (x.length : Int)
  · go_enter Tryz.func4, Tryz.ntmps4
    go_wp2_with fail
    refine HFI.out.mono ?_
    rintro e w1 ⟨rfl, hb1⟩
    go_wp2_with fail
    go_ret
    exact ⟨rfl, hb1⟩
  by_cases hl : (300 : Int) < (l.length : Int)
  · go_enter Tryz.func4, Tryz.ntmps4
    go_wp2_with fail
    refine HFI.out.mono ?_
    rintro e w1 ⟨rfl, hb1⟩
    go_wp2_with fail
    go_ret
    exact ⟨rfl, hb1⟩
  have lx : x.length ≤ 100 := by omega
  have ll : l.length ≤ 300 := by omega
  go_enter Tryz.func4, Tryz.ntmps4
  go_wp2_with fail
  refine HFI.out.mono ?_
  rintro e w1 ⟨rfl, hw1⟩
  clear HFI
  have z1 := hw1.size
  go_wp2_with fail
  refine (copyC_any x A0 c0 _ (row_step RX.out hw1) (by omega)).mono ?_
  rintro e w2 ⟨⟨v1, rfl, hown1⟩, hb2⟩
  have hw2 := stepH hw1 hb2
  have z2 := hb2.size
  obtain ⟨A1, c1, rfl, hr1, _, hB1⟩ := own_line (fun x _ => chL_len x) hown1
  have OM := Lib.hid hown1
  have RM := Lib.hid hr1
  have BM := Lib.hid (own_ltA hown1)
  clear hown1 hr1 hB1 hb2
  go_wp2_with fail
  refine (makeB_any x A1 c1 E m _ RM.out (by omega) IX.out (HE.out.below hw2) (cell_at HM.out hw2)).mono ?_
  rintro e w3 ⟨hmk, hb3⟩
  have hw3 := stepH hw2 hb3
  have z3 := hb3.size
  have OM := Lib.hid (OM.out.below hb3)
  clear RM hb3
  rcases hmk with ⟨hall, a, Ma, Na, rfl, hfar, hna, hla, hlm⟩ | ⟨hbad, gx, _, rfl⟩
  rotate_left
  · have HBAD := Lib.hid hbad
    have hne := fun W => eql_nil (E gx) W
    clear hbad
    rw [show errA E (some gx) = .iface 184 (.pointer (some (E gx))) from rfl]
    go_wp2_with fail
    refine (makeR_any x A0 c0 _ (row_step RX.out hw3) (by omega) IX.out).mono ?_
    rintro e w4 ⟨⟨q⟩, hb4⟩
    rcases q with ⟨hall, _⟩ | ⟨_, k, hk, rfl⟩
    · obtain ⟨c, hc, hc2⟩ := HBAD.out
      exact absurd (hall c hc) hc2
    have hk0 : (k != 0) = true := by simpa using hk
    have hw4 := stepH hw3 hb4
    clear hk
    go_wp2_with fail
    go_ret
    exact ⟨rfl, hw4⟩
  have HALL := Lib.hid hall
  have AF := Lib.hid hfar
  clear hall hfar
  go_wp2_with fail
  refine (makeR_any x A0 c0 _ (row_step RX.out hw3) (by omega) IX.out).mono ?_
  rintro e w4 ⟨⟨q⟩, hb4⟩
  rcases q with ⟨_, v4, W, rfl, hown4, hcan, hW5⟩ | ⟨hbad, _⟩
  rotate_left
  · obtain ⟨c, hc, hc2⟩ := hbad
    exact absurd (HALL.out c hc) hc2
  have hw4 := stepH hw3 hb4
  have z4 := hb4.size
  have OM := Lib.hid (OM.out.below hb4)
  have AF := Lib.hid (AF.out.step hb4)
  obtain ⟨AW, cW, rfl, hrW, _, hBW⟩ := own_line (fun x _ => chL_len x) hown4
  have RW := Lib.hid hrW
  have BW := Lib.hid hBW
  obtain ⟨f, hf⟩ : ∃ f, makeF x = f := ⟨_, rfl⟩
  rw [hf] at hcan AF
  have CW := Lib.hid hcan
  have HOK : Hid (okA f) := Lib.hid (hf ▸ makeF_ok HALL.out)
  have hWl : W.length ≤ 100 := by
    have := hcan.len (L := x.map nmb) (fun y hy => by rw [← hf] at hy; exact makeF_sup y hy)
    simp only [List.length_map] at this
    omega
  have HMW : Hid (makeF W = f) := Lib.hid hcan.make
  have HND : Hid ((W.map nmb).Nodup) := Lib.hid hcan.keys.nodup
  clear hown4 hrW hBW hcan hf hb4 hW5
  obtain ⟨nW, hnW⟩ : ∃ n, W.length = n := ⟨_, rfl⟩
  have HNW := Lib.hid hnW
  rw [hnW] at hWl
  rw [hnW]
  obtain ⟨nx, hnx⟩ : ∃ n, x.length = n := ⟨_, rfl⟩
  have HNX := Lib.hid hnx
  have OM : Hid (w4.ownsRow w1.heap.size 41 4 (.slice A1 nx c1) nx (x.flatMap chL)) := Lib.hid (by rw [← hnx]; exact OM.out)
  rw [hnx] at lx hna
  rw [hnx]
  clear hnx hnW hx hl
  go_wp2_with fail
  go_loopw [11] (fun i wr => ∃ (k : Nat) (xs : List Value), k ≤ nx ∧ i = .int .i64 k ∧ Hid (wr.ownsRow w1.heap.size 41 4 (.slice A1 nx c1) nx xs) ∧ OnlyL (blkL A1) w4 wr) (fun i _ => nx - (intOf i).toNat)
  case atStart => exact ⟨0, _, Nat.zero_le _, rfl, OM, OnlyL.refl _ _⟩
  case round =>
    obtain ⟨k, xs, hk, rfl, hown, hol⟩ := hrel
    by_cases hlt : k < nx
    · obtain ⟨g, rfl, hg1, hg2⟩ := own_blk hown.out (by omega)
      have hlt2 : (k : Int) < (nx : Int) := by omega
      go_wp2_with fail
      refine (set_e _ _ _).mono ?_
      rintro e w9 ⟨rfl, hb9⟩
      have hown9 := own_below hown.out hb9
      have hol9 := hol.trans (only_step hb9)
      clear hb9
      obtain ⟨⟨u0x, q0⟩, f0⟩ := own_at (i := k * 4) hown9 (by omega)
      obtain ⟨⟨u1x, q1⟩, f1⟩ := own_at (i := k * 4 + 1) hown9 (by omega)
      obtain ⟨⟨u2x, q2⟩, f2⟩ := own_at (i := k * 4 + 2) hown9 (by omega)
      obtain ⟨⟨u3x, q3⟩, f3⟩ := own_at (i := k * 4 + 3) hown9 (by omega)
      go_wp2_with fail
      go_roundw
      case rel => exact ⟨k + 1, _, by omega, by go_num, Lib.hid (own_over4 hown9 hlt _ _ _ _), OnlyL.setCell (OnlyL.setCell (OnlyL.setCell (OnlyL.setCell (hol9) (.inl (blk_mem g 0)) _) (.inl (blk_mem g 0)) _) (.inl (blk_mem g 0)) _) (.inl (blk_mem g 0)) _⟩
      case measure => simp [intOf]; omega
    · obtain rfl : nx = k := by omega
      obtain ⟨w5, rfl⟩ : ∃ x : World, x = wr := ⟨_, rfl⟩
      have hol5 := hol
      have hw5 : Below w.heap.size w w5 := hw4.trans (hol.below hw4.size (fun j hj => by obtain ⟨p, hp, rfl⟩ := mem_blk hj; have := BM.out p hp; omega))
      have hlw2 : ∀ p, A1 = some p → p.block < w2.heap.size := fun p hp => (BM.out p hp).2
      have AA := Lib.hid (AF.out.keepO hol hlw2 hla hlm).am
      have RW5 := Lib.hid (row_keep (B := w3.heap.size) RW.out hol BW.out (fun j hj => by obtain ⟨p, hp, rfl⟩ := mem_blk hj; have := hlw2 p hp; omega))
      have z5 := hw5.size
      have z5b := hol.size
      have hlt2 : ¬ (nx : Int) < (nx : Int) := by omega
      clear hown hol hol5 OM AF RW
      go_wp2_with fail
      refine (changes_any a Ma Na f _ AA.out (by omega)).mono ?_
      rintro e w6 ⟨⟨v6, l6, rfl, hown6, hc6, hn6⟩, hb6⟩
      obtain rfl := hc6.unique CW.out
      have hv6 : Below w5.heap.size w5 w6 := hb6
      have hw6 := stepH hw5 hb6
      have z6 := hb6.size
      have AA6 := Lib.hid (AA.out.step hb6)
      obtain ⟨A2, c2, rfl, _, _, hB2⟩ := own_line (fun x _ => chL_len x) hown6
      have OC : Hid (w6.ownsRow w5.heap.size 41 4 (.slice A2 nW c2) nW (l6.flatMap chL)) := Lib.hid (by have q : w6.ownsRow w5.heap.size 41 4 (.slice A2 l6.length c2) l6.length (l6.flatMap chL) := hown6; rw [HNW.out] at q; exact q)
      have B2 := Lib.hid (own_ltA OC.out)
      rw [HNW.out]
      have hn7 : Na = nW := by rw [← hn6, HNW.out]
      clear hown6 hc6 hn6 hB2 hb6
      have hsz : ∀ c ∈ l6, c.name.size ≤ 64 ∧ (amtB c).size ≤ 100 := fun c hc => ⟨mayE_size (HOK.out _ _ (CW.out.at' c hc)).2, amtB_may (HOK.out _ _ (CW.out.at' c hc)).2⟩
      have HSZ := Lib.hid hsz
      have hpv := fun c (hc : c ∈ l6) (hcl : c.clear = false) (W : World) (hW : PowT W) => printP_all c.n c.d W (mayE_valid (HOK.out _ _ (CW.out.at' c hc)).2 hcl) hW
      have HPV := Lib.hid hpv
      clear hsz hpv
      obtain ⟨TL, hTL⟩ : ∃ q, l6.map (fun c => lineS (amtB c) c) = q := ⟨_, rfl⟩
      have hTn : TL.length = nW := by rw [← hTL, List.length_map]; exact HNW.out
      go_wp2_with fail
      refine (linesT_any a Ma Na f l6 amtB _ AA6.out (HT.out.below hw6) (by omega) CW.out HSZ.out HPV.out).mono ?_
      rintro e w7 ⟨⟨v7, rfl, hown7⟩, hb7⟩
      have hw7 := stepH hw6 hb7
      have z7 := hb7.size
      rw [hTL] at hown7
      have hv7 : Below w5.heap.size w5 w7 := stepH hv6 hb7
      obtain ⟨A3, c3, rfl, _, _, _⟩ := own_line (fun x _ => encS_len x) hown7
      have OT : Hid (w7.ownsRow w6.heap.size 9 1 (.slice A3 nW c3) nW (TL.flatMap encS)) := Lib.hid (by have q : w7.ownsRow w6.heap.size 9 1 (.slice A3 TL.length c3) TL.length (TL.flatMap encS) := hown7; rw [hTn] at q; exact q)
      rw [hTn]
      have HTL := Lib.hid hTL
      have HTN := Lib.hid hTn
      have OC : Hid _ := Lib.hid (own_below OC.out hb7)
      clear hown7 hb7 hTL hTn AA6
      go_wp2_with fail
      go_loopw [14] (fun i wr => ∃ (k : Nat) (xs : List Value), k ≤ nW ∧ i = .int .i64 k ∧ Hid (wr.ownsRow w5.heap.size 41 4 (.slice A2 nW c2) nW xs) ∧ OnlyL (blkL A2) w7 wr) (fun i _ => nW - (intOf i).toNat)
      case atStart => exact ⟨0, _, Nat.zero_le _, rfl, OC, OnlyL.refl _ _⟩
      case round =>
        obtain ⟨k, xs, hk, rfl, hown, hol⟩ := hrel
        by_cases hlt : k < nW
        · obtain ⟨g, rfl, hg1, hg2⟩ := own_blk hown.out (by omega)
          have hlt2 : (k : Int) < (nW : Int) := by omega
          go_wp2_with fail
          refine (set_e _ _ _).mono ?_
          rintro e w9 ⟨rfl, hb9⟩
          have hown9 := own_below hown.out hb9
          have hol9 := hol.trans (only_step hb9)
          clear hb9
          obtain ⟨⟨u0x, q0⟩, f0⟩ := own_at (i := k * 4) hown9 (by omega)
          obtain ⟨⟨u1x, q1⟩, f1⟩ := own_at (i := k * 4 + 1) hown9 (by omega)
          obtain ⟨⟨u2x, q2⟩, f2⟩ := own_at (i := k * 4 + 2) hown9 (by omega)
          obtain ⟨⟨u3x, q3⟩, f3⟩ := own_at (i := k * 4 + 3) hown9 (by omega)
          go_wp2_with fail
          go_roundw
          case rel => exact ⟨k + 1, _, by omega, by go_num, Lib.hid (own_over4 hown9 hlt _ _ _ _), OnlyL.setCell (OnlyL.setCell (OnlyL.setCell (OnlyL.setCell (hol9) (.inl (blk_mem g 0)) _) (.inl (blk_mem g 0)) _) (.inl (blk_mem g 0)) _) (.inl (blk_mem g 0)) _⟩
          case measure => simp [intOf]; omega
        · obtain rfl : nW = k := by omega
          obtain ⟨w8, rfl⟩ : ∃ x : World, x = wr := ⟨_, rfl⟩
          have OC8 := Lib.hid hown.out
          have OT8 := Lib.hid (own_keep OT.out hol (fun g hg hj => by obtain ⟨p, hp, e1⟩ := mem_blk hj; have h1 := (B2.out p hp).2; have h2 := (OT.out.lt g hg).1; omega))
          have hv8 : Below w5.heap.size w5 w8 := hv7.trans (hol.below hv7.size (fun j hj => by obtain ⟨p, hp, rfl⟩ := mem_blk hj; exact (B2.out p hp).1))
          have hw8 := stepH hw5 hv8
          have z8 := hv8.size
          have hlt2 : ¬ (nW : Int) < (nW : Int) := by omega
          have z8b := hol.size
          clear hown hol OC OT
          go_wp2_with fail
          go_loopw [15] (fun i wr => ∃ (k : Nat) (xs : List Value), k ≤ nW ∧ i = .int .i64 k ∧ Hid (wr.ownsRow w6.heap.size 9 1 (.slice A3 nW c3) nW xs) ∧ OnlyL (blkL A3) w8 wr) (fun i _ => nW - (intOf i).toNat)
          case atStart => exact ⟨0, _, Nat.zero_le _, rfl, OT8, OnlyL.refl _ _⟩
          case round =>
            obtain ⟨k, xs, hk, rfl, hown, hol⟩ := hrel
            by_cases hlt : k < nW
            · obtain ⟨g, rfl, hg1, hg2⟩ := own_blk hown.out (by omega)
              have hlt2 : (k : Int) < (nW : Int) := by omega
              have hown9 := hown.out
              have hol9 := hol
              obtain ⟨⟨u0x, q0⟩, f0⟩ := own_at (i := k) hown9 (by omega)
              go_wp2_with fail
              go_roundw
              case rel => exact ⟨k + 1, _, by omega, by go_num, Lib.hid (own_set hown9 (by omega) _), OnlyL.setCell (hol9) (.inl (blk_mem g 0)) _⟩
              case measure => simp [intOf]; omega
            · obtain rfl : nW = k := by omega
              obtain ⟨w9, rfl⟩ : ∃ x : World, x = wr := ⟨_, rfl⟩
              have OT9 := Lib.hid hown.out
              have OC9 := Lib.hid (own_keep OC8.out hol (fun g hg hj => by obtain ⟨p, hp, e1⟩ := mem_blk hj; have h1 := (OT8.out.lt _ (by rw [hp]; rfl)).1; obtain ⟨p2, hp2, e2⟩ := own_blkA hg; have h2 := (B2.out _ hp2).2; omega))
              have hv9 : Below w5.heap.size w5 w9 := hv8.trans (hol.below hv8.size (fun j hj => by obtain ⟨p, hp, rfl⟩ := mem_blk hj; have h1 := (OT8.out.lt _ (by rw [hp]; rfl)).1; omega))
              have hw9 := stepH hw5 hv9
              have z9 := hv9.size
              have hlt2 : ¬ (nW : Int) < (nW : Int) := by omega
              have z9b := hol.size
              clear hown hol OC8 OT8
              have B3 := Lib.hid (own_ltA OT9.out)
              go_wp2_with fail
              refine (set_e _ _ _).mono ?_
              rintro e w10 ⟨rfl, hb10⟩
              have OC10 := Lib.hid (own_below OC9.out hb10)
              have OT10 := Lib.hid (own_below OT9.out hb10)
              have hv10 := stepH hv9 hb10
              have z10 := hb10.size
              clear hb10 OC9 OT9
              go_upto_region 26 with (at_builtin; go_must (refine wpList_append_lies _ rfl (.tmp 93) (.tmp 95) 23 rfl w5.heap.size 41 infC _ 4 40 Tryz.underlying23 hiC jc0 jc1 jc2 rfl (by decide) _ nW _ rfl (own_below OC10.out (by (repeat' (first | with_reducible exact Below.refl _ _ | with_reducible assumption | with_reducible refine Below.drew ?_ | with_reducible refine below_drewN ?_ _ | with_reducible refine Below.setCell ?_ ?_ _ | with_reducible refine Below.alloc ?_ ?_ _ | omega | (simp; done) | (simp; omega))))) ⟨w10.heap.size, 0, none⟩ 1 1 [.string ⟨#[105, 110, 46, 122, 122]⟩, .bool false, .int .i64 (-2), .int .i64 1] rfl rfl (World.news_of_block (cs := #[.string ⟨#[105, 110, 46, 122, 122]⟩, .bool false, .int .i64 (-2), .int .i64 1]) (blk_new rfl)) (by simp [Value.oneCell']) (by decide) (by unfold maxLen; omega) (by omega) (by simp; omega) _ rfl ?_); intro g11 cc11 w11 hown11 hgrow11 hat11 hlt11)
              have hv11 : Below w5.heap.size w5 w11 := Below.grown (Below.alloc hv10 (by omega) _) hgrow11 (by simp; omega) (fun g hg => (OC10.out.lt g hg).1)
              have OT11 := Lib.hid (World.ownsRow.kept (own_below OT10.out (by (repeat' (first | with_reducible exact Below.refl _ _ | with_reducible assumption | with_reducible refine Below.drew ?_ | with_reducible refine below_drewN ?_ _ | with_reducible refine Below.setCell ?_ ?_ _ | with_reducible refine Below.alloc ?_ ?_ _ | omega | (simp; done) | (simp; omega))))) hgrow11 (own_apart (fun p hp => (B2.out p hp).2) (fun p hp => (B3.out p hp).1)))
              have z11 : w10.heap.size ≤ w11.heap.size := by have := hgrow11.size; simp at this; omega
              clear hown11 hgrow11 hat11 hlt11 OC10 OT10
              go_upto_region 27 with (at_builtin; go_must (refine wpList_append_lies _ rfl (.tmp 97) (.tmp 98) 50 rfl w6.heap.size 9 infS _ 1 16 Tryz.underlying50 hiS js0 js1 js2 rfl (by decide) _ nW _ rfl (own_below OT11.out (by (repeat' (first | with_reducible exact Below.refl _ _ | with_reducible assumption | with_reducible refine Below.drew ?_ | with_reducible refine below_drewN ?_ _ | with_reducible refine Below.setCell ?_ ?_ _ | with_reducible refine Below.alloc ?_ ?_ _ | omega | (simp; done) | (simp; omega))))) ⟨w11.heap.size, 0, none⟩ 1 1 [.string ⟨#[63]⟩] rfl rfl (World.news_of_block (cs := #[.string ⟨#[63]⟩]) (blk_new rfl)) (by simp [Value.oneCell']) (by decide) (by unfold maxLen; omega) (by omega) (by simp; omega) _ rfl ?_); intro g12 cc12 w12 hown12 hgrow12 hat12 hlt12)
              have hv12 : Below w5.heap.size w5 w12 := Below.grown (Below.alloc hv11 (by omega) _) hgrow12 (by simp; omega) (fun g hg => by have := (OT11.out.lt g hg).1; omega)
              have hw12 := stepH hw5 hv12
              have z12 := hv12.size
              clear hown12 hgrow12 hat12 hlt12 OT11
              go_wp2_with fail
              refine (copyI_fit l B0 d0 _ (row_step RL.out hw12) (by omega)).mono ?_
              rintro e w13 ⟨⟨B4, d4, rfl, hr13, hn13⟩, hb13⟩
              have hv13 := stepH hv12 hb13
              have hw13 := stepH hw12 hb13
              have z13 := hb13.size
              have R13 := Lib.hid hr13
              have N13 := Lib.hid hn13
              clear hr13 hn13 hb13
              go_wp2_with fail
              refine (apply_own a Ma Na f l6 l B4 d4 E m _ (AA.out.step hv13) (by omega) R13.out IL.out (HE.out.below hw13) (cell_at HM.out hw13) N13.out HOK.out CW.out (by have := HNW.out; omega)).mono ?_
              rintro e w14 ⟨⟨v14, rs, rfl, hown14, hres14, hle14⟩, hb14⟩
              have hv14 := stepH hv13 hb14
              have hw14 := stepH hw13 hb14
              have z14 := hb14.size
              rw [HFX.out]
              have HR14 := Lib.hid hres14
              obtain ⟨A5, c5, rfl, _, _, _⟩ := own_line (fun x _ => itL_len x) hown14
              obtain ⟨nr, hnr⟩ : ∃ n, rs.length = n := ⟨_, rfl⟩
              have OO : Hid (w14.ownsRow w13.heap.size 53 3 (.slice A5 nr c5) nr (rs.flatMap itL)) := Lib.hid (by rw [← hnr]; exact hown14)
              rw [hnr] at hle14
              rw [hnr]
              clear hown14 hres14 hb14 R13 N13 hnr
              go_wp2_with fail
              go_loopw [18] (fun i wr => ∃ (k : Nat) (xs : List Value), k ≤ nr ∧ i = .int .i64 k ∧ Hid (wr.ownsRow w13.heap.size 53 3 (.slice A5 nr c5) nr xs) ∧ OnlyL (blkL A5) w14 wr) (fun i _ => nr - (intOf i).toNat)
              case atStart => exact ⟨0, _, Nat.zero_le _, rfl, OO, OnlyL.refl _ _⟩
              case round =>
                obtain ⟨k, xs, hk, rfl, hown, hol⟩ := hrel
                by_cases hlt : k < nr
                · obtain ⟨g, rfl, hg1, hg2⟩ := own_blk hown.out (by omega)
                  have hlt2 : (k : Int) < (nr : Int) := by omega
                  go_wp2_with fail
                  refine (item_e _ _ _).mono ?_
                  rintro e w9 ⟨rfl, hb9⟩
                  have hown9 := own_below hown.out hb9
                  have hol9 := hol.trans (only_step hb9)
                  clear hb9
                  obtain ⟨⟨u0x, q0⟩, f0⟩ := own_at (i := k * 3) hown9 (by omega)
                  obtain ⟨⟨u1x, q1⟩, f1⟩ := own_at (i := k * 3 + 1) hown9 (by omega)
                  obtain ⟨⟨u2x, q2⟩, f2⟩ := own_at (i := k * 3 + 2) hown9 (by omega)
                  go_wp2_with fail
                  go_roundw
                  case rel => exact ⟨k + 1, _, by omega, by go_num, Lib.hid (own_over3 hown9 hlt _ _ _), OnlyL.setCell (OnlyL.setCell (OnlyL.setCell (hol9) (.inl (blk_mem g 0)) _) (.inl (blk_mem g 0)) _) (.inl (blk_mem g 0)) _⟩
                  case measure => simp [intOf]; omega
                · obtain rfl : nr = k := by omega
                  obtain ⟨w15, rfl⟩ : ∃ x : World, x = wr := ⟨_, rfl⟩
                  have hv15 : Below w5.heap.size w5 w15 := hv14.trans (hol.below hv14.size (fun j hj => by obtain ⟨p, hp, rfl⟩ := mem_blk hj; have h1 := (own_ltA OO.out p hp).1; have := hv13.size; omega))
                  have hw15 := stepH hw5 hv15
                  have z15 := hv15.size
                  have hlt2 : ¬ (nr : Int) < (nr : Int) := by omega
                  clear hown hol OO
                  go_wp2_with fail
                  refine (copyI_fit l B0 d0 _ (row_step RL.out hw15) (by omega)).mono ?_
                  rintro e w16 ⟨⟨B6, d6, rfl, hr16, hn16⟩, hb16⟩
                  have hv16 := stepH hv15 hb16
                  have hw16 := stepH hw15 hb16
                  have z16 := hb16.size
                  have R16 := Lib.hid hr16
                  have N16 := Lib.hid hn16
                  clear hr16 hn16 hb16
                  go_wp2_with fail
                  refine (apply_own a Ma Na f l6 l B6 d6 E m _ (AA.out.step hv16) (by omega) R16.out IL.out (HE.out.below hw16) (cell_at HM.out hw16) N16.out HOK.out CW.out (by have := HNW.out; omega)).mono ?_
                  rintro e w17 ⟨⟨v17, rs2, rfl, hown17, hres17, hle17⟩, hb17⟩
                  have hv17 := stepH hv16 hb17
                  have hw17 := stepH hw16 hb17
                  have z17 := hb17.size
                  rw [HFX.out]
                  have HR17 := Lib.hid hres17
                  obtain ⟨A7, c7, rfl, hr17, _, _⟩ := own_line (fun x _ => itL_len x) hown17
                  have R17 := Lib.hid hr17
                  clear hown17 hres17 hb17 R16 N16 hr17
                  have QA := Lib.hid (applyR_own l6 l AW B0 cW d0 w17 (row_step RW5.out hv17) (row_step RL.out hw17) IL.out HND.out (by have := HNW.out; omega))
                  rw [HNW.out] at QA
                  go_wp2_with fail
                  refine QA.out.mono ?_
                  rintro e w18 ⟨⟨v18, rs3, k18, rfl, hown18, hres18, hk18⟩, hb18⟩
                  have hv18 := stepH hv17 hb18
                  have hw18 := stepH hw17 hb18
                  rw [HMW.out] at hres18
                  obtain rfl := hres18.unique HR17.out
                  obtain ⟨A8, c8, rfl, hr18, _, _⟩ := own_line (fun x _ => itL_len x) hown18
                  have R18 := Lib.hid hr18
                  have R17 := Lib.hid (row_step R17.out hb18)
                  have K18 := Lib.hid hk18
                  clear hown18 hres18 hr18 hb18 QA hk18
                  go_wp2_with fail
                  refine (changes_any a Ma Na f _ (AA.out.step hv18) (by omega)).mono ?_
                  rintro e w19 ⟨⟨v19, l9, rfl, hown19, hc19, hn19⟩, hb19⟩
                  obtain rfl := hc19.unique CW.out
                  have hv19 := stepH hv18 hb19
                  have hw19 := stepH hw18 hb19
                  obtain ⟨A9, c9, rfl, hr19, _, _⟩ := own_line (fun x _ => chL_len x) hown19
                  have R19 := Lib.hid hr19
                  have R17 := Lib.hid (row_step R17.out hb19)
                  have R18 := Lib.hid (row_step R18.out hb19)
                  clear hown19 hc19 hr19 hb19 hn19
                  have QS := Lib.hid (sameCs_any l9 A9 AW c9 cW w19 R19.out (row_step RW5.out hv19) (by have := HNW.out; omega))
                  rw [HNW.out] at QS
                  rw [HNW.out]
                  go_wp2_with fail
                  refine QS.out.mono ?_
                  rintro e w20 ⟨rfl, hb20⟩
                  have hv20 := stepH hv19 hb20
                  have hw20 := stepH hw19 hb20
                  have R17 := Lib.hid (row_step R17.out hb20)
                  have R18 := Lib.hid (row_step R18.out hb20)
                  clear hb20 QS R19
                  go_wp2_with fail
                  refine (linesT_any a Ma Na f l9 amtB _ (AA.out.step hv20) (HT.out.below hw20) (by omega) CW.out HSZ.out HPV.out).mono ?_
                  rintro e w21 ⟨⟨v21, rfl, hown21⟩, hb21⟩
                  have hv21 := stepH hv20 hb21
                  have hw21 := stepH hw20 hb21
                  rw [HTL.out] at hown21
                  obtain ⟨A21, c21, rfl, hr21, _, _⟩ := own_line (fun x _ => encS_len x) hown21
                  have R21 := Lib.hid hr21
                  have R17 := Lib.hid (row_step R17.out hb21)
                  have R18 := Lib.hid (row_step R18.out hb21)
                  clear hown21 hr21 hb21
                  have QL := Lib.hid (linesR_any l9 AW cW w21 (row_step RW5.out hv21) (by have := HNW.out; omega) (fun c hc => ⟨(HSZ.out c hc).1, fun hcl => mayE_valid (HOK.out _ _ (CW.out.at' c hc)).2 hcl⟩) (HT.out.below hw21))
                  rw [HNW.out, HTL.out] at QL
                  go_wp2_with fail
                  refine QL.out.mono ?_
                  rintro e w22 ⟨⟨v22, rfl, hown22⟩, hb22⟩
                  have hv22 := stepH hv21 hb22
                  have hw22 := stepH hw21 hb22
                  obtain ⟨A22, c22, rfl, hr22, _, _⟩ := own_line (fun x _ => encS_len x) hown22
                  have R22 := Lib.hid hr22
                  have R21 := Lib.hid (row_step R21.out hb22)
                  have R17 := Lib.hid (row_step R17.out hb22)
                  have R18 := Lib.hid (row_step R18.out hb22)
                  clear hown22 hr22 hb22 QL
                  go_wp2_with fail
                  refine (sameTexts_any TL A21 A22 c21 c22 _ R21.out R22.out (by have := HTN.out; omega)).mono ?_
                  rintro e w23 ⟨rfl, hb23⟩
                  have hv23 := stepH hv22 hb23
                  have hw23 := stepH hw22 hb23
                  have R17 := Lib.hid (row_step R17.out hb23)
                  have R18 := Lib.hid (row_step R18.out hb23)
                  clear hb23 R21 R22
                  have hlen : (0 : Int) < (nW : Int) + 1 := by omega
                  have hbd : Below w23.heap.size w23 w23.drew := (Below.refl _ _).drew
                  have QI := Lib.hid (sameIs_fit rs3 A7 A8 c7 c8 w23.drew (row_step R17.out hbd) (row_step R18.out hbd) (by omega))
                  cases fx with
                  | none =>
                    obtain rfl : k18 = 0 := K18.out.2 HFX.out
                    rw [show errA E none = .nilIface from rfl]
                    go_wp2_with fail
                    go_region_held3 (fun w' => True) (trivial)
                      (first | (go_at_call 12; refine QI.out.mono ?_; rintro e w24 ⟨rfl, hb24⟩; have hw24 := stepH hw23 (stepH hbd hb24)))
                    go_wp2_with fail
                    go_ret
                    exact ⟨rfl, hw24⟩
                  | some gx =>
                    have hk0 : (k18 == 0) = false := by
                      rw [beq_eq_false_iff_ne]
                      intro h
                      have := K18.out.1 h
                      rw [HFX.out] at this
                      cases this
                    have hne := fun W => eql_nil (E gx) W
                    rw [show errA E (some gx) = .iface 184 (.pointer (some (E gx))) from rfl]
                    go_wp2_with fail
                    go_region_held3 (fun w' => True) (trivial)
                      (first | (go_at_call 12; refine QI.out.mono ?_; rintro e w24 ⟨rfl, hb24⟩; have hw24 := stepH hw23 (stepH hbd hb24)))
                    go_wp2_with fail
                    go_ret
                    exact ⟨rfl, hw24⟩
end

end Go.Proofs.YtmoeoomlggjaaaaGreatDoor
