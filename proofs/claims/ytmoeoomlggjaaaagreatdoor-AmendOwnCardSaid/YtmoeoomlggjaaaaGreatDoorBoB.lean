/- The document's Apply; what is printed of a fraction; Lines; Make and where its boxes lie; rows written over. -/
import Derived.Test.YtmoeoomlggjaaaaGreatDoorBoA
import Derived.Lib.ItoaLen
import Derived.Lib.ItoaMem
import Derived.Lib.TrimByte
import Derived.Lib.LaidTab
import Derived.Deep.RegionHeldLaw
import Derived.Deep.AppendLies
namespace Go.Proofs.YtmoeoomlggjaaaaGreatDoor
section
open Go.RowKit Go.Maps

/-- what the document's Apply answers -/
structure ApplyRR (B : Nat) (cl : List Ch) (l : List It) (e : Ending) (w' : World) : Prop where
  ex : (faultI l = none ∧ ∃ v rs, e = .returned (.tuple #[v, .int .i64 0]) ∧ Own itL 3 53 B w' v rs ∧ CanonI (app (inF l) (makeF cl)) rs) ∨ (faultI l ≠ none ∧ ∃ k : Int, k ≠ 0 ∧ e = .returned (.tuple #[.slice none 0 0, .int .i64 k]))
/-- changes done one by one -/
def doL (l : List Ch) (s : St) : St := l.foldl (fun s c => doC c s) s
theorem doL_snoc {l : List Ch} {k : Nat} {c : Ch} {s : St} (h : l[k]? = some c) : doL (l.take (k + 1)) s = doC c (doL (l.take k) s) := by
  unfold doL
  rw [take_snoc h, List.foldl_append]
  rfl
theorem doC_clear {c : Ch} {s : St} (h : c.clear = true) : doC c s = fun y => if y = nmb c then none else s y := by
  funext y; unfold doC; rw [h]; simp
theorem doC_set {c : Ch} {s : St} (h : c.clear = false) : doC c s = setS s ⟨c.name, c.n, c.d⟩ := by
  funext y; unfold doC setS; rw [h]; rfl
theorem doL_app : ∀ (l : List Ch) (s : St), (l.map nmb).Nodup → doL l s = app s (makeF l)
  | [], s, _ => by funext y; unfold doL app makeF; rfl
  | c :: r, s, hn => by
    rw [List.map_cons, List.nodup_cons] at hn
    show doL r (doC c s) = _
    rw [doL_app r _ hn.2]
    funext y
    unfold app
    by_cases e : y = nmb c
    · have h1 : makeF r y = none := makeF_not (by rw [e]; exact hn.1)
      have h2 : makeF (c :: r) y = some c := by
        rw [e]; exact makeF_yes (by rw [List.map_cons, List.nodup_cons]; exact hn) (List.mem_cons_self ..)
      rw [h1, h2]
      unfold doC
      rw [if_pos e]
    · have h2 : makeF (c :: r) y = makeF r y := by
        by_cases q : y ∈ r.map nmb
        · obtain ⟨x, hx, rfl⟩ := List.mem_map.1 q
          rw [makeF_yes hn.2 hx, makeF_yes (by rw [List.map_cons, List.nodup_cons]; exact hn) (List.mem_cons_of_mem _ hx)]
        · rw [makeF_not q, makeF_not (by rw [List.map_cons, List.mem_cons]; rintro (h | h); exact e h; exact q h)]
      rw [h2]
      unfold doC
      rw [if_neg e]
theorem doL_sup {l : List Ch} {s : St} {L : List (List UInt8)} (hs : ∀ y, (s y).isSome = true → y ∈ L) : ∀ y, (doL l s y).isSome = true → y ∈ L ++ l.map nmb := by
  induction l generalizing s L with
  | nil => intro y h; rw [List.map_nil, List.append_nil]; exact hs y h
  | cons c r ih =>
    intro y h
    have := ih (s := doC c s) (L := L ++ [nmb c]) (fun y hy => by
      unfold doC at hy
      split at hy
      · rename_i e; rw [e]; simp
      · exact List.mem_append_left _ (hs y hy)) y h
    simpa using this

set_option maxRecDepth 100000 in
set_option maxHeartbeats 8000000 in
theorem applyR_any (cl : List Ch) (l : List It) (A B : Option Addr) (ca cb : Nat) (w : World) (hc : RowAt chL 4 w w.heap.size A cl) (hl : RowAt itL 3 w w.heap.size B l) (hI : ∀ x ∈ l, InI x) (hn : (cl.map nmb).Nodup) (h5 : cl.length + l.length ≤ 500) :
    Calls Tryz.prog 23 #[.slice A cl.length ca, .slice B l.length cb] w fun e w' => ApplyRR w.heap.size cl l e w' ∧ Below w.heap.size w w' := by
  have HL := Lib.hid hc
  have HIN := Lib.hid (inputsR_any l B cb w hl hI)
  have HAPP := Lib.hid (doL_app cl (inF l) hn)
  have HSUP : Hid (∀ k y, (doL (cl.take k) (inF l) y).isSome = true → y ∈ l.map itb ++ (cl.take k).map nmb) := Lib.hid (fun k => doL_sup (fun y hy => (inF_some y).1 hy))
  clear hl hI hc hn
  go_enter Tryz.func23, Tryz.ntmps23
  go_wp2_with fail
  refine HIN.out.mono ?_
  rintro e w1 ⟨⟨h⟩, hb1⟩
  rcases h with ⟨hf, v, rs, rfl, hown, hcan⟩ | ⟨hf, kk, hk, rfl⟩
  case inr =>
    have hk0 : (kk != 0) = true := by simpa using hk
    have HF := Lib.hid hf
    clear hf
    go_wp2_with fail
    go_ret2
    exact ⟨⟨.inr ⟨HF.out, kk, hk, rfl⟩⟩, hb1⟩
  have HF := Lib.hid hf
  have HO := Lib.hid hown
  have HC0 := Lib.hid hcan
  have HLR := Lib.hid (row_step HL.out hb1)
  have hr0 : rs.length ≤ 500 := Nat.le_trans (hcan.len (fun y hy => (inF_some y).1 hy)) (by simp; omega)
  clear hf hown hcan
  go_wp2_with fail
  go_loopw [6, 8] (fun u i wr => ∃ (k : Nat) (L : List It), k ≤ cl.length ∧ i = .int .i64 k ∧ Hid (Own itL 3 53 w.heap.size wr u L) ∧ Hid (CanonI (doL (cl.take k) (inF l)) L) ∧ L.length ≤ 500 ∧ Below w1.heap.size w1 wr) (fun _ i _ => cl.length - (intOf i).toNat)
  case atStart => exact ⟨0, rs, Nat.zero_le _, rfl, HO, HC0, hr0, Below.refl _ _⟩
  case round =>
    obtain ⟨k, L, hk, rfl, HROW, HC, hLk, hwr⟩ := hrel
    have z2 := hwr.size
    have z1 := hb1.size
    have hww : Below w.heap.size w wr := stepH hb1 hwr
    by_cases hlt : k < cl.length
    · have hlt2 : (k : Int) < (cl.length : Int) := by omega
      obtain ⟨⟨nm, cr, n, d⟩, hx⟩ : ∃ x, cl[k]? = some x := ⟨cl[k], List.getElem?_eq_getElem hlt⟩
      obtain ⟨g, off, rfl, hg, c0, c1, c2, c3⟩ := cellsC (HLR.out.below hwr (Nat.le_refl _)) hx
      dsimp only at c0 c1 c2 c3
      have HX := Lib.hid hx
      have HRW := Lib.hid HROW.out
      obtain ⟨A1, cp1, rfl, hr1, _, _⟩ := own_line (fun x _ => itL_len x) HRW.out
      have HR1 := Lib.hid hr1
      have HLN := Lib.hid (fun (r : List It) (hq : CanonI (doL (cl.take (k + 1)) (inF l)) r) => Nat.le_trans (hq.len (HSUP.out (k + 1))) (by simp; omega : (l.map itb ++ (cl.take (k + 1)).map nmb).length ≤ 500))
      clear hx hr1
      cases cr with
      | true =>
        have HWI := Lib.hid (fun W h => withoutR_any L nm A1 cp1 W h (by omega))
        have HCN : Hid (CanonI (doL (cl.take (k + 1)) (inF l)) (L.filter (fun x => !decide (itb x = nm.data.toList)))) := Lib.hid (by rw [doL_snoc HX.out, doC_clear rfl]; exact without_canon HC.out)
        go_wp2_with fail
        refine (HWI.out _ HR1.out).mono ?_
        rintro e w6 ⟨⟨v6, rfl, hown6⟩, hb6⟩
        have hw6 : Below w1.heap.size w1 w6 := stepH hwr hb6
        have HO6 := Lib.hid (own_mono hown6 (show w.heap.size ≤ _ by omega))
        have hL6 := HLN.out _ HCN.out
        clear hown6 hb6
        go_wp2_with fail
        go_roundw
        case rel => exact ⟨k + 1, _, by omega, by go_num, HO6, HCN, hL6, hw6⟩
        case measure => simp [intOf] <;> omega
      | false =>
        have HPU := Lib.hid (fun W h => putI_any L ⟨nm, n, d⟩ A1 cp1 W h (by omega))
        unfold itV at HPU
        dsimp only at HPU
        have HCN : Hid (CanonI (doL (cl.take (k + 1)) (inF l)) (putI L ⟨nm, n, d⟩)) := Lib.hid (by rw [doL_snoc HX.out, doC_set rfl]; exact put_canon HC.out)
        have x0 : wr.drew.cell? ⟨g, off + k * 4, none⟩ = some (.string nm) := c0
        have x2 : wr.drew.cell? ⟨g, off + k * 4 + 2, none⟩ = some (.int .i64 n) := c2
        have x3 : wr.drew.cell? ⟨g, off + k * 4 + 3, none⟩ = some (.int .i64 d) := c3
        have hbd : Below wr.heap.size wr wr.drew := (Below.refl _ _).drew
        go_wp2_with fail
        go_region_held3 (fun w' => w'.cell? ⟨g, off + k * 4, none⟩ = some (.string nm) ∧ w'.cell? ⟨g, off + k * 4 + 2, none⟩ = some (.int .i64 n) ∧ w'.cell? ⟨g, off + k * 4 + 3, none⟩ = some (.int .i64 d)) (first | with_reducible exact ⟨x0, x2, x3⟩ | with_reducible exact ⟨d0, d2, d3⟩)
          (first | (go_at_call 52; refine (HPU.out _ (row_step HR1.out hbd)).mono ?_; rintro e w6 ⟨⟨v6, rfl, hown6⟩, hb6⟩; have hb6' : Below wr.heap.size wr w6 := stepH hbd hb6; have d0 := cell_at c0 hb6'; have d2 := cell_at c2 hb6'; have d3 := cell_at c3 hb6'))
        have hw6 : Below w1.heap.size w1 w6 := stepH hwr hb6'
        have HO6 := Lib.hid (own_mono hown6 (show w.heap.size ≤ _ by simp; omega))
        have hL6 := HLN.out _ HCN.out
        go_wp2_with fail
        go_roundw
        case rel => exact ⟨k + 1, _, by omega, by go_num, HO6, HCN, hL6, hw6⟩
        case measure => simp [intOf] <;> omega
    · obtain rfl : k = cl.length := by omega
      have hlt2 : ¬ (cl.length : Int) < (cl.length : Int) := by omega
      have HCE : Hid (CanonI (app (inF l) (makeF cl)) L) := Lib.hid (by have := HC.out; rw [List.take_length, HAPP.out] at this; exact this)
      have HRW := Lib.hid HROW.out
      obtain ⟨A1, cp1, rfl, hr1, _, _⟩ := own_line (fun x _ => itL_len x) HRW.out
      have h9 : ¬ (500 : Int) < (L.length : Int) := by omega
      clear HC HROW hr1
      go_wp2_with fail
      go_ret2
      exact ⟨⟨.inl ⟨HF.out, _, L, rfl, HRW.out, HCE.out⟩⟩, hww⟩
end

section
open Go.RowKit Go.Maps

theorem grown_b (w : World) (n : Nat) (os : Array Obj) : Below w.heap.size w (Sort.grow (w.drewN n) os) :=
  ⟨rfl, rfl, rfl, by simp [Sort.grow], fun k hk => Sort.heap_grow_old _ _ (by simpa using hk)⟩
theorem bytes_app (a b : List UInt8) : (⟨a.toArray⟩ : ByteArray) ++ ⟨b.toArray⟩ = ⟨(a ++ b).toArray⟩ := by
  apply ByteArray.ext
  simp [ByteArray.data_append]
/-- bytes of a list -/
def bts (l : List UInt8) : ByteArray := ⟨l.toArray⟩
theorem bts_app (a b : List UInt8) : bts a ++ bts b = bts (a ++ b) := bytes_app a b
theorem bts_size (a : List UInt8) : (bts a).size = a.length := by simp [bts, ByteArray.size]
theorem bts_list (a : List UInt8) : (bts a).data.toList = a := rfl

/-- the sign of a number -/
def sgn (n : Int) : List UInt8 := if n < 0 then [45] else []
theorem itoa_sgn (n : Int) : Lib.itoa n = sgn n ++ Lib.itoa (n.natAbs : Int) := by
  unfold sgn
  by_cases h : n < 0
  · rw [if_pos h, Lib.itoa_nonneg]
    unfold Lib.itoa
    rw [if_pos h]
    rfl
  · rw [if_neg h, List.nil_append]
    congr 1
    omega
/-- what stands behind the point -/
def behind (n d : Int) : List UInt8 := Lib.trimRightB ((Lib.itoa (1000000 + n.natAbs % d * (1000000 / d))).drop 1) 48
/-- what is printed of n over d -/
def printL (n d : Int) : List UInt8 :=
  if (1000000 : Int) % d = 0 then (if 0 < (n.natAbs : Int) % d * (1000000 / d) then (sgn n ++ Lib.itoa (n.natAbs / d)) ++ (46 :: behind n d) else sgn n ++ Lib.itoa (n.natAbs / d))
  else Lib.itoa n ++ (47 :: Lib.itoa d)
theorem print_frac {n d : Int} (h : (1000000 : Int) % d ≠ 0) : printL n d = Lib.itoa n ++ (47 :: Lib.itoa d) := if_neg h
theorem print_whole (n : Int) : printL n 1 = Lib.itoa n := by
  unfold printL
  rw [if_pos (by decide), if_neg (by simp), Int.ediv_one, ← itoa_sgn]
theorem part_pos {n d : Int} (h : validB n d = true) (h1 : d ≠ 1) (hd : (1000000 : Int) % d = 0) : 0 < (n.natAbs : Int) % d * (1000000 / d) := by
  unfold validB at h
  simp only [decide_eq_true_eq] at h
  obtain ⟨d1, d2, _, _, hg⟩ := h
  have hq : 0 < (1000000 : Int) / d := Int.ediv_pos_of_pos_of_dvd (by decide) (by omega) (Int.dvd_of_emod_eq_zero hd)
  have hr : 0 ≤ (n.natAbs : Int) % d := Int.emod_nonneg _ (by omega)
  have hz : (n.natAbs : Int) % d ≠ 0 := fun e => by
    have h2 : d ∣ (n.natAbs : Int) := Int.dvd_of_emod_eq_zero e
    have h3 : d ∣ n := Int.dvd_natAbs.1 h2
    have h4 : d ∣ (Int.gcd n d : Int) := Int.dvd_coe_gcd h3 (Int.dvd_refl d)
    rw [hg] at h4
    have := Int.le_of_dvd (by decide) h4
    omega
  exact Int.mul_pos (by omega) hq
theorem part_bound {n d : Int} (h1 : 1 ≤ d) (h2 : d ≤ 1000000) : 0 ≤ (n.natAbs : Int) % d * (1000000 / d) ∧ (n.natAbs : Int) % d * (1000000 / d) ≤ 1000000 ∧ 0 ≤ (n.natAbs : Int) % d ∧ (n.natAbs : Int) % d < 1000000 ∧ 0 ≤ 1000000 / d ∧ 1000000 / d ≤ 1000000 := by
  have a1 : 0 ≤ (n.natAbs : Int) % d := Int.emod_nonneg _ (by omega)
  have a2 : (n.natAbs : Int) % d < d := Int.emod_lt_of_pos _ (by omega)
  have b1 : 0 ≤ (1000000 : Int) / d := Int.ediv_nonneg (by decide) (by omega)
  have b2 : (1000000 : Int) / d ≤ 1000000 := Int.ediv_le_self _ (by decide)
  have b3 : d * (1000000 / d) ≤ 1000000 := Int.mul_ediv_self_le (by omega)
  refine ⟨Int.mul_nonneg a1 b1, Int.le_trans (Int.mul_le_mul_of_nonneg_right (Int.le_of_lt a2) b1) b3, a1, by omega, b1, b2⟩
theorem print_part {n d : Int} (h : validB n d = true) (h1 : d ≠ 1) (hd : (1000000 : Int) % d = 0) : printL n d = (sgn n ++ Lib.itoa (n.natAbs / d)) ++ (46 :: behind n d) := by
  unfold printL
  rw [if_pos hd, if_pos (part_pos h h1 hd)]
theorem itoa_len {n : Int} (h0 : -9223372036854775808 ≤ n) (h1 : n ≤ 9223372036854775807) : (Lib.itoa n).length ≤ 21 := Lib.itoa_length_le n h0 h1
theorem itoa_ne (n : Int) : 1 ≤ (Lib.itoa n).length := by
  unfold Lib.itoa
  split
  · simp
  · rw [Lib.decDigits_length]; exact Lib.nDigits_pos _
theorem trimR_len (l : List UInt8) (c : UInt8) : (Lib.trimRightB l c).length ≤ l.length := by
  unfold Lib.trimRightB
  rw [List.length_reverse]
  have := (List.dropWhile_suffix (fun x => x == c) (l := l.reverse)).length_le
  simpa using this
theorem trimR_step (l : List UInt8) (c : UInt8) : Lib.trimRightB (l ++ [c]) c = Lib.trimRightB l c := by
  unfold Lib.trimRightB
  rw [List.reverse_append]
  simp
theorem trimR_done {l : List UInt8} {c x : UInt8} (h : x ≠ c) : Lib.trimRightB (l ++ [x]) c = l ++ [x] := by
  unfold Lib.trimRightB
  rw [List.reverse_append]
  simp [h]

set_option maxHeartbeats 2000000 in
theorem zeros_any (s : List UInt8) (w : World) (h : s.length ≤ 1000) : Calls Tryz.prog 76 #[.string (bts s)] w fun e w' => e = .returned (.string (bts (Lib.trimRightB s 48))) ∧ Below w.heap.size w w' := by
  go_enter Tryz.func76, Tryz.ntmps76
  go_wp2
  go_loopw [0] (fun v wr => ∃ l : List UInt8, v = .string (bts l) ∧ l.length ≤ 1000 ∧ Hid (Lib.trimRightB l 48 = Lib.trimRightB s 48) ∧ Below w.heap.size w wr) (fun v _ => (match v with | .string b => b.size | _ => 0))
  case atStart => exact ⟨s, rfl, h, rfl, Below.refl _ _⟩
  case round =>
    obtain ⟨l, rfl, hl, HT, hwr⟩ := hrel
    rcases List.eq_nil_or_concat l with rfl | ⟨l', x, rfl⟩
    · go_wp2
      go_ret
      exact ⟨by rw [← HT.out]; rfl, hwr⟩
    · rw [List.concat_eq_append] at *
      obtain ⟨n, hn⟩ : ∃ n, l'.length = n := ⟨_, rfl⟩
      obtain ⟨S, hS⟩ : ∃ S, bts (l' ++ [x]) = S := ⟨_, rfl⟩
      have hsz : S.size = n + 1 := by rw [← hS, bts_size, ← hn]; simp
      have hn2 : n ≤ 1000 := by simp at hl; omega
      have hwn : wrap64 (n : Int) = (n : Int) := by unfold wrap64; omega
      have i0 : ∀ hh, S[n]'hh = x := fun hh => by
        subst hS
        show (l' ++ [x]).toArray[n] = x
        simp [← hn]
      have z0 : (0 : Int) < (S.size : Int) := by omega
      have HS := Lib.hid hS
      have HN := Lib.hid hn
      rw [hS]
      clear hS hn hl
      by_cases hx : x = 48
      · have e1 : (((x.toNat : Int)) == 48) = true := by subst hx; rfl
        have HX := Lib.hid hx
        clear hx
        have hx1 : S.extract 0 n = bts l' := by
          rw [← HS.out, ← HN.out]
          apply ByteArray.ext
          simp [bts]
        go_wp2
        refine ⟨⟨l', rfl, by have := HN.out; omega, Lib.hid (by rw [← HT.out, HX.out, trimR_step]), hwr⟩, ?_⟩
        show (bts l').size < S.size
        rw [bts_size, hsz]
        have := HN.out
        omega
      · have e1 : (((x.toNat : Int)) == 48) = false := by
          rw [beq_eq_false_iff_ne]
          intro e
          exact hx (UInt8.toNat_inj.1 (by show x.toNat = 48; omega))
        have HX := Lib.hid hx
        clear hx
        go_wp2
        go_ret
        exact ⟨by rw [← HT.out, trimR_done HX.out, HS.out]; rfl, hwr⟩
end

section
open Go.RowKit Go.Maps

/-- the table of Itoa -/
structure PowT (w : World) : Prop where
  pow : Lib.TabIs Tryz.prog w "internal/strconv.uint64pow10" .u64 Lib.pow10Tab
  lt : 5 < w.heap.size
theorem gPow : Tryz.prog.globalNamed "internal/strconv.uint64pow10" = some 5 := by kernel_rfl
theorem var_below {w w' : World} (hb : Below w.heap.size w w') {n : String} {g : Nat} (hg : Tryz.prog.globalNamed n = some g) (hl : g < w.heap.size) {k : IntKind} {zs : List Int} (h : Lib.TabIs Tryz.prog w n k zs) : Lib.TabIs Tryz.prog w' n k zs := by
  unfold Lib.TabIs World.var? at *
  rw [hg] at h ⊢
  show (match w'.heap[g]? with | some (.cells cs _ _) => some cs | _ => none) = _
  rw [hb.block g hl]
  exact h
theorem PowT.below {w w' : World} (h : PowT w) (hb : Below w.heap.size w w') : PowT w' := ⟨var_below hb gPow h.lt h.pow, Nat.lt_of_lt_of_le h.lt hb.size⟩
theorem itoa_any (n : Int) (w : World) (h0 : -9223372036854775808 ≤ n) (h1 : n ≤ 9223372036854775807) (hT : PowT w) :
    Calls Tryz.prog 75 #[.int .i64 n] w fun e w' => e = .returned (.string (bts (Lib.itoa n))) ∧ Below w.heap.size w w' := by
  refine (Tryz.strconv_Itoa n h0 h1 w hT.pow).mono ?_
  rintro e w1 ⟨rfl, q, os, rfl⟩
  exact ⟨rfl, grown_b w q os⟩
theorem trim_any (s : List UInt8) (w : World) (h : s.length ≤ 1000) :
    Calls Tryz.prog 97 #[.string (bts s), .string ⟨#[48]⟩] w fun e w' => e = .returned (.string (bts (Lib.trimRightB s 48))) ∧ Below w.heap.size w w' := by
  refine (Tryz.strings_TrimRight_one (bts s) 48 (by decide) w (by rw [bts_size]; omega)).mono ?_
  rintro e w1 ⟨rfl, rfl⟩
  exact ⟨rfl, Below.refl _ _⟩
theorem negF_any (n d : Int) (w : World) (hn : -1000000000000 ≤ n) (hn2 : n ≤ 1000000000000) :
    Calls Tryz.prog 96 #[.agg #[.int .i64 n, .int .i64 d]] w fun e w' => e = .returned (.agg #[.int .i64 (-n), .int .i64 d]) ∧ Below w.heap.size w w' := by
  have hw : wrap64 (-n) = -n := by unfold wrap64; omega
  go_enter Tryz.func96, Tryz.ntmps96
  go_wp2_with fail
  refine bodyPost_ret (v := .agg #[.int .i64 (-n), .int .i64 d]) (by simp [results, Tryz.results96, go_sem]) rfl ⟨rfl, by (repeat' (first | with_reducible exact Below.refl _ _ | with_reducible assumption | with_reducible refine Below.drew ?_ | with_reducible refine below_drewN ?_ _ | with_reducible refine Below.setCell ?_ ?_ _ | with_reducible refine Below.alloc ?_ ?_ _ | omega | (simp; done) | (simp; omega)))⟩
theorem sgn_pos {n : Int} (h : 0 ≤ n) : sgn n = [] := if_neg (by omega)
theorem sgn_neg {n : Int} (h : n < 0) : sgn n = [45] := if_pos h
theorem add_is (a b : List UInt8) (x y z : ByteArray) (w : World) (hx : x = bts a) (hy : y = bts b) (hz : bts (a ++ b) = z) (h : a.length + b.length ≤ 100000) : (Op.stringOp .add x y).run Tryz.prog w = .ok (.string z) w := by
  subst hx hy
  exact concat_is _ _ _ w (by rw [bts_size, bts_size]; omega) (by rw [bts_app, hz])

set_option maxRecDepth 100000 in
set_option maxHeartbeats 8000000 in
theorem printP_any (n d : Int) (w : World) (hv : validB n d = true) (hT : PowT w) (hn : 0 ≤ n) :
    Calls Tryz.prog 73 #[.agg #[.int .i64 n, .int .i64 d]] w fun e w' => e = .returned (.string (bts (printL n d))) ∧ Below w.heap.size w w' := by
  obtain ⟨hin, hid⟩ := validB_in hv
  have hb := of_decide_eq_true (show decide _ = true from hv)
  obtain ⟨d1, d2, n1, n2, _⟩ := hb
  have HV := Lib.hid (fun W => valid_is n d true W hv hin.1 hin.2 hid.1 hid.2)
  have HT := Lib.hid hT
  have HVV := Lib.hid hv
  have hd0 : d ≠ 0 := by omega
  have hdb : (d == 0) = false := by simpa using hd0
  obtain ⟨N, hN⟩ : ∃ N : Int, (n.natAbs : Int) = N := ⟨_, rfl⟩
  have hN0 : 0 ≤ N := by omega
  have hN1 : N ≤ 1000000000000 := by omega
  have HPB := Lib.hid (part_bound (n := n) d1 d2)
  rw [hN] at HPB
  have HSG := Lib.hid (sgn_pos hn)
  have HIS := Lib.hid (itoa_sgn n)
  rw [hN] at HIS
  have HNN : Hid (N = n) := Lib.hid (by show _ = _; omega)
  have HNA := Lib.hid hN
  have tm : (1000000 : Int).tmod d = 1000000 % d := Int.tmod_eq_emod_of_nonneg (by decide)
  obtain ⟨M, hM⟩ : ∃ M, (1000000 : Int) % d = M := ⟨_, rfl⟩
  rw [hM] at tm
  have tq : N.tdiv d = N / d := Int.tdiv_eq_ediv_of_nonneg hN0
  have tr : N.tmod d = N % d := Int.tmod_eq_emod_of_nonneg hN0
  have tt : (1000000 : Int).tdiv d = 1000000 / d := Int.tdiv_eq_ediv_of_nonneg (by decide)
  have q0 : 0 ≤ N / d := Int.ediv_nonneg hN0 (by omega)
  have q1 : N / d ≤ N := Int.ediv_le_self _ hN0
  obtain ⟨Q, hQ⟩ : ∃ Q, N / d = Q := ⟨_, rfl⟩
  obtain ⟨R, hR⟩ : ∃ R, N % d = R := ⟨_, rfl⟩
  obtain ⟨V, hV⟩ : ∃ V, (1000000 : Int) / d = V := ⟨_, rfl⟩
  obtain ⟨P, hP⟩ : ∃ P, R * V = P := ⟨_, rfl⟩
  rw [hQ] at tq q0 q1
  rw [hR] at tr
  rw [hV] at tt
  rw [hR, hV, hP] at HPB
  have HML := Lib.hid hM
  have HQL := Lib.hid hQ
  have HPL : Hid ((n.natAbs : Int) % d * (1000000 / d) = P) := Lib.hid (by show _ = _; rw [hN, hR, hV, hP])
  obtain ⟨hp0, hp1, hr0, hr1, hv0, hv1⟩ := HPB.out
  have hwP : wrap64 P = P := by unfold wrap64; omega
  have hwP2 : wrap64 (1000000 + P) = 1000000 + P := by unfold wrap64; omega
  have hwP3 : IntKind.i64.wrap (1000000 + P) = 1000000 + P := by rw [IntKind.wrap_i64]; omega
  have hwV : IntKind.i64.wrap V = V := by rw [IntKind.wrap_i64]; omega
  have hwRV : IntKind.i64.wrap (R * V) = P := by rw [hP, IntKind.wrap_i64]; omega
  clear hP
  obtain rfl : N = n := by omega
  clear hQ hR hV hN hM hv hT hin hid HPB HNN HNA
  have e0 : decide (N < 0) = false := decide_eq_false (by omega)
  obtain ⟨LQ, hLQ⟩ : ∃ l, Lib.itoa Q = l := ⟨_, rfl⟩
  have lLQ : LQ.length ≤ 21 := by rw [← hLQ]; exact itoa_len (by omega) (by omega)
  have ILQ := Lib.hid (fun (W : World) (hT : PowT W) => itoa_any Q W (by omega) (by omega) hT)
  rw [hLQ] at ILQ
  obtain ⟨LP, hLP⟩ : ∃ l, Lib.itoa (1000000 + P) = l := ⟨_, rfl⟩
  have lLP : LP.length ≤ 21 := by rw [← hLP]; exact itoa_len (by omega) (by omega)
  have ILP := Lib.hid (fun (W : World) (hT : PowT W) => itoa_any (1000000 + P) W (by omega) (by omega) hT)
  rw [hLP] at ILP
  obtain ⟨LN, hLN⟩ : ∃ l, Lib.itoa N = l := ⟨_, rfl⟩
  have lLN : LN.length ≤ 21 := by rw [← hLN]; exact itoa_len (by omega) (by omega)
  have ILN := Lib.hid (fun (W : World) (hT : PowT W) => itoa_any N W (by omega) (by omega) hT)
  rw [hLN] at ILN
  obtain ⟨LD, hLD⟩ : ∃ l, Lib.itoa d = l := ⟨_, rfl⟩
  have lLD : LD.length ≤ 21 := by rw [← hLD]; exact itoa_len (by omega) (by omega)
  have ILD := Lib.hid (fun (W : World) (hT : PowT W) => itoa_any d W (by omega) (by omega) hT)
  rw [hLD] at ILD
  have pLP : 1 ≤ LP.length := by rw [← hLP]; exact itoa_ne _
  have HLQ := Lib.hid hLQ
  have HLP := Lib.hid hLP
  have HLN := Lib.hid hLN
  have HLD := Lib.hid hLD
  rw [hLN] at HIS
  clear hLQ hLP hLN hLD
  obtain ⟨SQ, hSQ⟩ : ∃ s, bts LQ = s := ⟨_, rfl⟩
  obtain ⟨SP, hSP⟩ : ∃ s, bts LP = s := ⟨_, rfl⟩
  obtain ⟨SN, hSN⟩ : ∃ s, bts LN = s := ⟨_, rfl⟩
  obtain ⟨SD, hSD⟩ : ∃ s, bts LD = s := ⟨_, rfl⟩
  rw [hSQ] at ILQ
  rw [hSP] at ILP
  rw [hSN] at ILN
  rw [hSD] at ILD
  obtain ⟨LT, hLT⟩ : ∃ l, Lib.trimRightB (LP.drop 1) 48 = l := ⟨_, rfl⟩
  have lLT : LT.length ≤ 21 := by rw [← hLT]; exact Nat.le_trans (trimR_len _ _) (by rw [List.length_drop]; omega)
  have ITR := Lib.hid (fun (W : World) => trim_any (LP.drop 1) W (by rw [List.length_drop]; omega))
  rw [hLT] at ITR
  have hsP : SP.size = LP.length := by rw [← hSP, bts_size]
  have hxP : SP.extract 1 LP.length = bts (LP.drop 1) := by
    rw [← hSP]; apply ByteArray.ext; simp [bts]; rw [List.take_of_length_le (by simp)]
  obtain ⟨SE, hSE⟩ : ∃ s, bts (LP.drop 1) = s := ⟨_, rfl⟩
  rw [hSE] at ITR hxP
  obtain ⟨ST, hST⟩ : ∃ s, bts LT = s := ⟨_, rfl⟩
  rw [hST] at ITR
  obtain ⟨nP, hnP⟩ : ∃ n, LP.length = n := ⟨_, rfl⟩
  rw [hnP] at hsP hxP pLP
  have hnP2 : nP ≤ 21 := by omega
  obtain ⟨X1, hX1⟩ : ∃ s, bts ([] ++ LQ) = s := ⟨_, rfl⟩
  have r1 := fun W => add_is [] LQ ⟨#[]⟩ SQ X1 W rfl hSQ.symm hX1 (by simp; omega)
  obtain ⟨X2, hX2⟩ : ∃ s, bts ([46] ++ LT) = s := ⟨_, rfl⟩
  have r2 := fun W => add_is [46] LT ⟨#[46]⟩ ST X2 W rfl hST.symm hX2 (by simp; omega)
  obtain ⟨X3, hX3⟩ : ∃ s, bts (([] ++ LQ) ++ ([46] ++ LT)) = s := ⟨_, rfl⟩
  have r3 := fun W => add_is ([] ++ LQ) ([46] ++ LT) X1 X2 X3 W hX1.symm hX2.symm hX3 (by simp; omega)
  obtain ⟨X4, hX4⟩ : ∃ s, bts ([] ++ LN) = s := ⟨_, rfl⟩
  have r4 := fun W => add_is [] LN ⟨#[]⟩ SN X4 W rfl hSN.symm hX4 (by simp; omega)
  obtain ⟨X5, hX5⟩ : ∃ s, bts (([] ++ LN) ++ [47]) = s := ⟨_, rfl⟩
  have r5 := fun W => add_is ([] ++ LN) [47] X4 ⟨#[47]⟩ X5 W hX4.symm rfl hX5 (by simp; omega)
  obtain ⟨X6, hX6⟩ : ∃ s, bts ((([] ++ LN) ++ [47]) ++ LD) = s := ⟨_, rfl⟩
  have r6 := fun W => add_is (([] ++ LN) ++ [47]) LD X5 SD X6 W hX5.symm hSD.symm hX6 (by simp; omega)
  have HX1 := Lib.hid hX1
  have HX3 := Lib.hid hX3
  have HX6 := Lib.hid hX6
  have HLT := Lib.hid hLT
  clear hX1 hX2 hX3 hX4 hX5 hX6 hSQ hSP hSN hSD hSE hST hLT lLQ lLP lLN lLD lLT hnP
  go_enter Tryz.func73, Tryz.ntmps73
  go_wp2_with fail
  refine (HV.out _).mono ?_
  rintro e w1 ⟨rfl, hb1⟩
  have B1 := keepH hb1 (g := w.heap.size) (blk_new rfl)
  have cB := cellH B1
  have hw1 : Below w.heap.size w w1 := stepH (by (repeat' (first | with_reducible exact Below.refl _ _ | with_reducible assumption | with_reducible refine Below.drew ?_ | with_reducible refine below_drewN ?_ _ | with_reducible refine Below.setCell ?_ ?_ _ | with_reducible refine Below.alloc ?_ ?_ _ | omega | (simp; done) | (simp; omega)))) hb1
  have z1 : w.heap.size < w1.heap.size := Nat.lt_of_lt_of_le (by simp) hb1.size
  obtain ⟨lB, lB1, lB2⟩ := ltH B1
  by_cases hMz : M = 0
  · have hMb : (M != 0) = false := by simp [hMz]
    have HMZ := Lib.hid hMz
    clear hMz
    go_wp2_with fail
    refine (ILQ.out _ (HT.out.below hw1)).mono ?_
    rintro e w4 ⟨rfl, hb4⟩
    have B4 := keepH hb4 B1.out
    have hw4 : Below w.heap.size w w4 := stepH hw1 hb4
    have cD := cellH (w := w4.drew) B4
    clear cB lB lB1 lB2
    go_wp2_with fail
    go_region_held3 (fun w' => ∀ o, w'.cell? ⟨w.heap.size, o, none⟩ = #[.int .i64 N, .int .i64 d][o]?) (first | with_reducible exact cD | go_keep)
      (fail)
    by_cases hp : 0 < P
    · have hpb : decide (0 < P) = true := decide_eq_true hp
      have HP := Lib.hid hp
      clear hp
      go_wp2_with fail
      refine (ILP.out _ (HT.out.below hw4.drew)).mono ?_
      rintro e w5 ⟨rfl, hb5⟩
      have hw5 : Below w.heap.size w w5 := stepH hw4.drew hb5
      go_wp2_with fail
      refine (ITR.out _).mono ?_
      rintro e w6 ⟨rfl, hb6⟩
      have hw6 : Below w.heap.size w w6 := stepH hw5 hb6
      go_wp2_with fail
      go_ret
      have hres : X3 = bts (printL N d) := by
        rw [← HX3.out]
        unfold printL behind
        rw [if_pos (HML.out.trans HMZ.out), if_pos (by rw [HPL.out]; exact HP.out), HPL.out, HLP.out, HLT.out, HSG.out, show (N.natAbs : Int) = N by omega, HQL.out, HLQ.out]
        rfl
      exact ⟨by rw [← hres]; rfl, hw6⟩
    · have hpb : decide (0 < P) = false := decide_eq_false hp
      have HP := Lib.hid hp
      clear hp
      go_wp2_with fail
      go_ret
      have hres : X1 = bts (printL N d) := by
        rw [← HX1.out]
        unfold printL
        rw [if_pos (HML.out.trans HMZ.out), if_neg (by rw [HPL.out]; have := HP.out; omega), HSG.out, show (N.natAbs : Int) = N by omega, HQL.out, HLQ.out]
      exact ⟨by rw [← hres]; rfl, hw4.drew⟩
  · have hMb : (M != 0) = true := by simpa using hMz
    have HMZ := Lib.hid hMz
    clear hMz
    have hbd : Below w1.heap.size w1 w1.drew := (Below.refl _ _).drew
    have hwd : Below w.heap.size w w1.drew := hw1.drew
    have cD := cellH (w := w1.drew) B1
    go_wp2_with fail
    go_region_held3 (fun w' => ∀ o, w'.cell? ⟨w.heap.size, o, none⟩ = #[.int .i64 N, .int .i64 d][o]?) (first | with_reducible exact cD | with_reducible exact d0 | go_keep)
      (first | (go_at_call 75; refine (ILN.out _ (HT.out.below hwd)).mono ?_; rintro e w4 ⟨rfl, hb4⟩; have hw4 : Below w.heap.size w w4 := stepH hwd hb4; have B4 := keepH (stepH hbd hb4) B1.out; have d0 := cellH B4) | (go_at_call 75; refine (ILD.out _ (HT.out.below hw4)).mono ?_; rintro e w5 ⟨rfl, hb5⟩; have hw5 : Below w.heap.size w w5 := stepH hw4 hb5; have B5 := keepH hb5 B4.out; have d1 := cellH B5))
    go_wp2_with fail
    go_ret
    have hres : X6 = bts (printL N d) := by
      rw [← HX6.out]
      rw [print_frac (by rw [HML.out]; exact HMZ.out), HLN.out, HLD.out]
      rw [List.append_assoc ([] ++ LN)]
      rfl
    exact ⟨by rw [← hres]; rfl, hw5⟩
set_option maxRecDepth 100000 in
set_option maxHeartbeats 8000000 in
theorem printN_any (n d : Int) (w : World) (hv : validB n d = true) (hT : PowT w) (hn : n < 0) :
    Calls Tryz.prog 73 #[.agg #[.int .i64 n, .int .i64 d]] w fun e w' => e = .returned (.string (bts (printL n d))) ∧ Below w.heap.size w w' := by
  obtain ⟨hin, hid⟩ := validB_in hv
  have hb := of_decide_eq_true (show decide _ = true from hv)
  obtain ⟨d1, d2, n1, n2, _⟩ := hb
  have HV := Lib.hid (fun W => valid_is n d true W hv hin.1 hin.2 hid.1 hid.2)
  have HT := Lib.hid hT
  have HVV := Lib.hid hv
  have hd0 : d ≠ 0 := by omega
  have hdb : (d == 0) = false := by simpa using hd0
  obtain ⟨N, hN⟩ : ∃ N : Int, (n.natAbs : Int) = N := ⟨_, rfl⟩
  have hN0 : 0 ≤ N := by omega
  have hN1 : N ≤ 1000000000000 := by omega
  have HPB := Lib.hid (part_bound (n := n) d1 d2)
  rw [hN] at HPB
  have HSG := Lib.hid (sgn_neg hn)
  have HIS := Lib.hid (itoa_sgn n)
  rw [hN] at HIS
  have HNN : Hid (N = -n) := Lib.hid (by show _ = _; omega)
  have HNA := Lib.hid hN
  have tm : (1000000 : Int).tmod d = 1000000 % d := Int.tmod_eq_emod_of_nonneg (by decide)
  obtain ⟨M, hM⟩ : ∃ M, (1000000 : Int) % d = M := ⟨_, rfl⟩
  rw [hM] at tm
  have tq : N.tdiv d = N / d := Int.tdiv_eq_ediv_of_nonneg hN0
  have tr : N.tmod d = N % d := Int.tmod_eq_emod_of_nonneg hN0
  have tt : (1000000 : Int).tdiv d = 1000000 / d := Int.tdiv_eq_ediv_of_nonneg (by decide)
  have q0 : 0 ≤ N / d := Int.ediv_nonneg hN0 (by omega)
  have q1 : N / d ≤ N := Int.ediv_le_self _ hN0
  obtain ⟨Q, hQ⟩ : ∃ Q, N / d = Q := ⟨_, rfl⟩
  obtain ⟨R, hR⟩ : ∃ R, N % d = R := ⟨_, rfl⟩
  obtain ⟨V, hV⟩ : ∃ V, (1000000 : Int) / d = V := ⟨_, rfl⟩
  obtain ⟨P, hP⟩ : ∃ P, R * V = P := ⟨_, rfl⟩
  rw [hQ] at tq q0 q1
  rw [hR] at tr
  rw [hV] at tt
  rw [hR, hV, hP] at HPB
  have HML := Lib.hid hM
  have HQL := Lib.hid hQ
  have HPL : Hid ((n.natAbs : Int) % d * (1000000 / d) = P) := Lib.hid (by show _ = _; rw [hN, hR, hV, hP])
  obtain ⟨hp0, hp1, hr0, hr1, hv0, hv1⟩ := HPB.out
  have hwP : wrap64 P = P := by unfold wrap64; omega
  have hwP2 : wrap64 (1000000 + P) = 1000000 + P := by unfold wrap64; omega
  have hwP3 : IntKind.i64.wrap (1000000 + P) = 1000000 + P := by rw [IntKind.wrap_i64]; omega
  have hwV : IntKind.i64.wrap V = V := by rw [IntKind.wrap_i64]; omega
  have hwRV : IntKind.i64.wrap (R * V) = P := by rw [hP, IntKind.wrap_i64]; omega
  clear hP
  clear hQ hR hV hN hM hv hT hin hid HPB
  have e0 : decide (n < 0) = true := decide_eq_true hn
  obtain ⟨LQ, hLQ⟩ : ∃ l, Lib.itoa Q = l := ⟨_, rfl⟩
  have lLQ : LQ.length ≤ 21 := by rw [← hLQ]; exact itoa_len (by omega) (by omega)
  have ILQ := Lib.hid (fun (W : World) (hT : PowT W) => itoa_any Q W (by omega) (by omega) hT)
  rw [hLQ] at ILQ
  obtain ⟨LP, hLP⟩ : ∃ l, Lib.itoa (1000000 + P) = l := ⟨_, rfl⟩
  have lLP : LP.length ≤ 21 := by rw [← hLP]; exact itoa_len (by omega) (by omega)
  have ILP := Lib.hid (fun (W : World) (hT : PowT W) => itoa_any (1000000 + P) W (by omega) (by omega) hT)
  rw [hLP] at ILP
  obtain ⟨LN, hLN⟩ : ∃ l, Lib.itoa N = l := ⟨_, rfl⟩
  have lLN : LN.length ≤ 21 := by rw [← hLN]; exact itoa_len (by omega) (by omega)
  have ILN := Lib.hid (fun (W : World) (hT : PowT W) => itoa_any N W (by omega) (by omega) hT)
  rw [hLN] at ILN
  obtain ⟨LD, hLD⟩ : ∃ l, Lib.itoa d = l := ⟨_, rfl⟩
  have lLD : LD.length ≤ 21 := by rw [← hLD]; exact itoa_len (by omega) (by omega)
  have ILD := Lib.hid (fun (W : World) (hT : PowT W) => itoa_any d W (by omega) (by omega) hT)
  rw [hLD] at ILD
  have pLP : 1 ≤ LP.length := by rw [← hLP]; exact itoa_ne _
  have HLQ := Lib.hid hLQ
  have HLP := Lib.hid hLP
  have HLN := Lib.hid hLN
  have HLD := Lib.hid hLD
  rw [hLN] at HIS
  clear hLQ hLP hLN hLD
  obtain ⟨SQ, hSQ⟩ : ∃ s, bts LQ = s := ⟨_, rfl⟩
  obtain ⟨SP, hSP⟩ : ∃ s, bts LP = s := ⟨_, rfl⟩
  obtain ⟨SN, hSN⟩ : ∃ s, bts LN = s := ⟨_, rfl⟩
  obtain ⟨SD, hSD⟩ : ∃ s, bts LD = s := ⟨_, rfl⟩
  rw [hSQ] at ILQ
  rw [hSP] at ILP
  rw [hSN] at ILN
  rw [hSD] at ILD
  obtain ⟨LT, hLT⟩ : ∃ l, Lib.trimRightB (LP.drop 1) 48 = l := ⟨_, rfl⟩
  have lLT : LT.length ≤ 21 := by rw [← hLT]; exact Nat.le_trans (trimR_len _ _) (by rw [List.length_drop]; omega)
  have ITR := Lib.hid (fun (W : World) => trim_any (LP.drop 1) W (by rw [List.length_drop]; omega))
  rw [hLT] at ITR
  have hsP : SP.size = LP.length := by rw [← hSP, bts_size]
  have hxP : SP.extract 1 LP.length = bts (LP.drop 1) := by
    rw [← hSP]; apply ByteArray.ext; simp [bts]; rw [List.take_of_length_le (by simp)]
  obtain ⟨SE, hSE⟩ : ∃ s, bts (LP.drop 1) = s := ⟨_, rfl⟩
  rw [hSE] at ITR hxP
  obtain ⟨ST, hST⟩ : ∃ s, bts LT = s := ⟨_, rfl⟩
  rw [hST] at ITR
  obtain ⟨nP, hnP⟩ : ∃ n, LP.length = n := ⟨_, rfl⟩
  rw [hnP] at hsP hxP pLP
  have hnP2 : nP ≤ 21 := by omega
  obtain ⟨X1, hX1⟩ : ∃ s, bts ([45] ++ LQ) = s := ⟨_, rfl⟩
  have r1 := fun W => add_is [45] LQ ⟨#[45]⟩ SQ X1 W rfl hSQ.symm hX1 (by simp; omega)
  obtain ⟨X2, hX2⟩ : ∃ s, bts ([46] ++ LT) = s := ⟨_, rfl⟩
  have r2 := fun W => add_is [46] LT ⟨#[46]⟩ ST X2 W rfl hST.symm hX2 (by simp; omega)
  obtain ⟨X3, hX3⟩ : ∃ s, bts (([45] ++ LQ) ++ ([46] ++ LT)) = s := ⟨_, rfl⟩
  have r3 := fun W => add_is ([45] ++ LQ) ([46] ++ LT) X1 X2 X3 W hX1.symm hX2.symm hX3 (by simp; omega)
  obtain ⟨X4, hX4⟩ : ∃ s, bts ([45] ++ LN) = s := ⟨_, rfl⟩
  have r4 := fun W => add_is [45] LN ⟨#[45]⟩ SN X4 W rfl hSN.symm hX4 (by simp; omega)
  obtain ⟨X5, hX5⟩ : ∃ s, bts (([45] ++ LN) ++ [47]) = s := ⟨_, rfl⟩
  have r5 := fun W => add_is ([45] ++ LN) [47] X4 ⟨#[47]⟩ X5 W hX4.symm rfl hX5 (by simp; omega)
  obtain ⟨X6, hX6⟩ : ∃ s, bts ((([45] ++ LN) ++ [47]) ++ LD) = s := ⟨_, rfl⟩
  have r6 := fun W => add_is (([45] ++ LN) ++ [47]) LD X5 SD X6 W hX5.symm hSD.symm hX6 (by simp; omega)
  have HX1 := Lib.hid hX1
  have HX3 := Lib.hid hX3
  have HX6 := Lib.hid hX6
  have HLT := Lib.hid hLT
  clear hX1 hX2 hX3 hX4 hX5 hX6 hSQ hSP hSN hSD hSE hST hLT lLQ lLP lLN lLD lLT hnP
  go_enter Tryz.func73, Tryz.ntmps73
  go_wp2_with fail
  refine (HV.out _).mono ?_
  rintro e w1 ⟨rfl, hb1⟩
  have B1 := keepH hb1 (g := w.heap.size) (blk_new rfl)
  have cB := cellH B1
  have hw1 : Below w.heap.size w w1 := stepH (by (repeat' (first | with_reducible exact Below.refl _ _ | with_reducible assumption | with_reducible refine Below.drew ?_ | with_reducible refine below_drewN ?_ _ | with_reducible refine Below.setCell ?_ ?_ _ | with_reducible refine Below.alloc ?_ ?_ _ | omega | (simp; done) | (simp; omega)))) hb1
  have z1 : w.heap.size < w1.heap.size := Nat.lt_of_lt_of_le (by simp) hb1.size
  obtain ⟨lB, lB1, lB2⟩ := ltH B1
  go_wp2_with fail
  refine (negF_any n d _ (by omega) (by omega)).mono ?_
  rintro e w2 ⟨rfl, hb2⟩
  have B2 := keepH hb2 B1.out
  have hw2 : Below w.heap.size w w2 := stepH hw1 hb2
  have z2 : w.heap.size < w2.heap.size := Nat.lt_of_lt_of_le z1 hb2.size
  have hNe : -n = N := HNN.out.symm
  rw [hNe]
  clear hNe lB lB1 lB2 cB
  obtain ⟨lB, lB1, lB2⟩ := ltH B2
  have cB := cellH B2
  have fz : ∀ o, w2.frozen? ⟨w.heap.size, o, none⟩ = false := fun o => by simp [World.frozen?, B2.out]
  obtain ⟨w3, hw3e⟩ : ∃ q, (w2.setCell ⟨w.heap.size, 0, none⟩ (.int .i64 N)).setCell ⟨w.heap.size, 1, none⟩ (.int .i64 d) = q := ⟨_, rfl⟩
  have B3 : Hid (w3.heap[w.heap.size]? = some (.cells #[.int .i64 N, .int .i64 d] 39 (0, 0))) := Lib.hid (by rw [← hw3e]; simp [World.setCell, Array.getElem?_modify, B2.out])
  have hw3 : Below w.heap.size w w3 := by rw [← hw3e]; (repeat' (first | with_reducible exact Below.refl _ _ | with_reducible assumption | with_reducible refine Below.drew ?_ | with_reducible refine below_drewN ?_ _ | with_reducible refine Below.setCell ?_ ?_ _ | with_reducible refine Below.alloc ?_ ?_ _ | omega | (simp; done) | (simp; omega)))
  have cB3 := cellH B3
  by_cases hMz : M = 0
  · have hMb : (M != 0) = false := by simp [hMz]
    have HMZ := Lib.hid hMz
    clear hMz
    go_wp2_with fail
    refine (ILQ.out _ (HT.out.below hw3)).mono ?_
    rintro e w4 ⟨rfl, hb4⟩
    have B4 := keepH hb4 B3.out
    have hw4 : Below w.heap.size w w4 := stepH hw3 hb4
    have cD := cellH (w := w4.drew) B4
    clear cB lB lB1 lB2
    go_wp2_with fail
    go_region_held3 (fun w' => ∀ o, w'.cell? ⟨w.heap.size, o, none⟩ = #[.int .i64 N, .int .i64 d][o]?) (first | with_reducible exact cD | go_keep)
      (fail)
    by_cases hp : 0 < P
    · have hpb : decide (0 < P) = true := decide_eq_true hp
      have HP := Lib.hid hp
      clear hp
      go_wp2_with fail
      refine (ILP.out _ (HT.out.below hw4.drew)).mono ?_
      rintro e w5 ⟨rfl, hb5⟩
      have hw5 : Below w.heap.size w w5 := stepH hw4.drew hb5
      go_wp2_with fail
      refine (ITR.out _).mono ?_
      rintro e w6 ⟨rfl, hb6⟩
      have hw6 : Below w.heap.size w w6 := stepH hw5 hb6
      go_wp2_with fail
      go_ret
      have hres : X3 = bts (printL n d) := by
        rw [← HX3.out]
        unfold printL behind
        rw [if_pos (HML.out.trans HMZ.out), if_pos (by rw [HPL.out]; exact HP.out), HPL.out, HLP.out, HLT.out, HSG.out, HNA.out, HQL.out, HLQ.out]
        rfl
      exact ⟨by rw [← hres]; rfl, hw6⟩
    · have hpb : decide (0 < P) = false := decide_eq_false hp
      have HP := Lib.hid hp
      clear hp
      go_wp2_with fail
      go_ret
      have hres : X1 = bts (printL n d) := by
        rw [← HX1.out]
        unfold printL
        rw [if_pos (HML.out.trans HMZ.out), if_neg (by rw [HPL.out]; have := HP.out; omega), HSG.out, HNA.out, HQL.out, HLQ.out]
      exact ⟨by rw [← hres]; rfl, hw4.drew⟩
  · have hMb : (M != 0) = true := by simpa using hMz
    have HMZ := Lib.hid hMz
    clear hMz
    have hbd : Below w3.heap.size w3 w3.drew := (Below.refl _ _).drew
    have hwd : Below w.heap.size w w3.drew := hw3.drew
    have cD := cellH (w := w3.drew) B3
    go_wp2_with fail
    go_region_held3 (fun w' => ∀ o, w'.cell? ⟨w.heap.size, o, none⟩ = #[.int .i64 N, .int .i64 d][o]?) (first | with_reducible exact cD | with_reducible exact d0 | go_keep)
      (first | (go_at_call 75; refine (ILN.out _ (HT.out.below hwd)).mono ?_; rintro e w4 ⟨rfl, hb4⟩; have hw4 : Below w.heap.size w w4 := stepH hwd hb4; have B4 := keepH (stepH hbd hb4) B3.out; have d0 := cellH B4) | (go_at_call 75; refine (ILD.out _ (HT.out.below hw4)).mono ?_; rintro e w5 ⟨rfl, hb5⟩; have hw5 : Below w.heap.size w w5 := stepH hw4 hb5; have B5 := keepH hb5 B4.out; have d1 := cellH B5))
    go_wp2_with fail
    go_ret
    have hres : X6 = bts (printL n d) := by
      rw [← HX6.out]
      rw [print_frac (by rw [HML.out]; exact HMZ.out), HIS.out, HSG.out, HLD.out]
      rw [List.append_assoc ([45] ++ LN)]
      rfl
    exact ⟨by rw [← hres]; rfl, hw5⟩
end

section
open Go.RowKit Go.Maps

set_option maxRecDepth 100000 in
set_option maxHeartbeats 8000000 in
theorem printRP_any (n d : Int) (w : World) (hv : validB n d = true) (hT : PowT w) (hn : 0 ≤ n) :
    Calls Tryz.prog 54 #[.agg #[.int .i64 n, .int .i64 d]] w fun e w' => e = .returned (.string (bts (printL n d))) ∧ Below w.heap.size w w' := by
  obtain ⟨hin, hid⟩ := validB_in hv
  have hb := of_decide_eq_true (show decide _ = true from hv)
  obtain ⟨d1, d2, n1, n2, _⟩ := hb
  have HV := Lib.hid (fun W => validR_is n d true W hv hin hid)
  have HT := Lib.hid hT
  have HVV := Lib.hid hv
  have hd0 : d ≠ 0 := by omega
  have hdb : (d == 0) = false := by simpa using hd0
  obtain ⟨N, hN⟩ : ∃ N : Int, (n.natAbs : Int) = N := ⟨_, rfl⟩
  have hN0 : 0 ≤ N := by omega
  have hN1 : N ≤ 1000000000000 := by omega
  have hmx : max n (wrap64 (-n)) = N := by rw [show wrap64 (-n) = -n by unfold wrap64; omega]; omega
  have hmx2 : max n (-n) = N := by omega
  have hwn : wrap64 (-n) = -n := by unfold wrap64; omega
  have HPB := Lib.hid (part_bound (n := n) d1 d2)
  rw [hN] at HPB
  have HSG := Lib.hid (sgn_pos hn)
  have tm : (1000000 : Int).tmod d = 1000000 % d := Int.tmod_eq_emod_of_nonneg (by decide)
  obtain ⟨M, hM⟩ : ∃ M, (1000000 : Int) % d = M := ⟨_, rfl⟩
  rw [hM] at tm
  have tq : N.tdiv d = N / d := Int.tdiv_eq_ediv_of_nonneg hN0
  have tr : N.tmod d = N % d := Int.tmod_eq_emod_of_nonneg hN0
  have tt : (1000000 : Int).tdiv d = 1000000 / d := Int.tdiv_eq_ediv_of_nonneg (by decide)
  have q0 : 0 ≤ N / d := Int.ediv_nonneg hN0 (by omega)
  have q1 : N / d ≤ N := Int.ediv_le_self _ hN0
  obtain ⟨Q, hQ⟩ : ∃ Q, N / d = Q := ⟨_, rfl⟩
  obtain ⟨R, hR⟩ : ∃ R, N % d = R := ⟨_, rfl⟩
  obtain ⟨V, hV⟩ : ∃ V, (1000000 : Int) / d = V := ⟨_, rfl⟩
  obtain ⟨P, hP⟩ : ∃ P, R * V = P := ⟨_, rfl⟩
  rw [hQ] at tq q0 q1
  rw [hR] at tr
  rw [hV] at tt
  rw [hR, hV, hP] at HPB
  have HML := Lib.hid hM
  have HNQ : Hid ((n.natAbs : Int) / d = Q) := Lib.hid (by show _ = _; rw [hN, hQ])
  have HPL : Hid ((n.natAbs : Int) % d * (1000000 / d) = P) := Lib.hid (by show _ = _; rw [hN, hR, hV, hP])
  obtain ⟨hp0, hp1, hr0, hr1, hv0, hv1⟩ := HPB.out
  have hwP2 : wrap64 (1000000 + P) = 1000000 + P := by unfold wrap64; omega
  have hwP3 : IntKind.i64.wrap (1000000 + P) = 1000000 + P := by rw [IntKind.wrap_i64]; omega
  have hwV : IntKind.i64.wrap V = V := by rw [IntKind.wrap_i64]; omega
  have hwR : IntKind.i64.wrap R = R := by rw [IntKind.wrap_i64]; omega
  have hwRV : IntKind.i64.wrap (R * V) = P := by rw [hP, IntKind.wrap_i64]; omega
  clear hP
  clear hQ hR hV hN hM hv hT hin hid HPB
  have e0 : decide (n < 0) = false := decide_eq_false (by omega)
  obtain ⟨LQ, hLQ⟩ : ∃ l, Lib.itoa Q = l := ⟨_, rfl⟩
  have lLQ : LQ.length ≤ 21 := by rw [← hLQ]; exact itoa_len (by omega) (by omega)
  have ILQ := Lib.hid (fun (W : World) (hT : PowT W) => itoa_any Q W (by omega) (by omega) hT)
  rw [hLQ] at ILQ
  obtain ⟨LP, hLP⟩ : ∃ l, Lib.itoa (1000000 + P) = l := ⟨_, rfl⟩
  have lLP : LP.length ≤ 21 := by rw [← hLP]; exact itoa_len (by omega) (by omega)
  have ILP := Lib.hid (fun (W : World) (hT : PowT W) => itoa_any (1000000 + P) W (by omega) (by omega) hT)
  rw [hLP] at ILP
  obtain ⟨LN, hLN⟩ : ∃ l, Lib.itoa n = l := ⟨_, rfl⟩
  have lLN : LN.length ≤ 21 := by rw [← hLN]; exact itoa_len (by omega) (by omega)
  have ILN := Lib.hid (fun (W : World) (hT : PowT W) => itoa_any n W (by omega) (by omega) hT)
  rw [hLN] at ILN
  obtain ⟨LD, hLD⟩ : ∃ l, Lib.itoa d = l := ⟨_, rfl⟩
  have lLD : LD.length ≤ 21 := by rw [← hLD]; exact itoa_len (by omega) (by omega)
  have ILD := Lib.hid (fun (W : World) (hT : PowT W) => itoa_any d W (by omega) (by omega) hT)
  rw [hLD] at ILD
  have pLP : 1 ≤ LP.length := by rw [← hLP]; exact itoa_ne _
  have HLQ := Lib.hid hLQ
  have HLP := Lib.hid hLP
  have HLN := Lib.hid hLN
  have HLD := Lib.hid hLD
  clear hLQ hLP hLN hLD
  obtain ⟨SQ, hSQ⟩ : ∃ s, bts LQ = s := ⟨_, rfl⟩
  obtain ⟨SP, hSP⟩ : ∃ s, bts LP = s := ⟨_, rfl⟩
  obtain ⟨SN, hSN⟩ : ∃ s, bts LN = s := ⟨_, rfl⟩
  obtain ⟨SD, hSD⟩ : ∃ s, bts LD = s := ⟨_, rfl⟩
  have HSN := Lib.hid hSN
  rw [hSQ] at ILQ
  rw [hSP] at ILP
  rw [hSN] at ILN
  rw [hSD] at ILD
  obtain ⟨LT, hLT⟩ : ∃ l, Lib.trimRightB (LP.drop 1) 48 = l := ⟨_, rfl⟩
  have lLT : LT.length ≤ 21 := by rw [← hLT]; exact Nat.le_trans (trimR_len _ _) (by rw [List.length_drop]; omega)
  have ITR := Lib.hid (fun (W : World) => zeros_any (LP.drop 1) W (by rw [List.length_drop]; omega))
  rw [hLT] at ITR
  have hsP : SP.size = LP.length := by rw [← hSP, bts_size]
  have hxP : SP.extract 1 LP.length = bts (LP.drop 1) := by
    rw [← hSP]; apply ByteArray.ext; simp [bts]; rw [List.take_of_length_le (by simp)]
  obtain ⟨SE, hSE⟩ : ∃ s, bts (LP.drop 1) = s := ⟨_, rfl⟩
  rw [hSE] at ITR hxP
  obtain ⟨ST, hST⟩ : ∃ s, bts LT = s := ⟨_, rfl⟩
  rw [hST] at ITR
  obtain ⟨nP, hnP⟩ : ∃ n, LP.length = n := ⟨_, rfl⟩
  rw [hnP] at hsP hxP pLP
  have hnP2 : nP ≤ 21 := by omega
  obtain ⟨X1, hX1⟩ : ∃ s, bts ([] ++ LQ) = s := ⟨_, rfl⟩
  obtain rfl : SQ = X1 := by rw [← hX1, ← hSQ]; rfl
  obtain ⟨X2, hX2⟩ : ∃ s, bts (([] ++ LQ) ++ [46]) = s := ⟨_, rfl⟩
  have r2 := fun W => add_is ([] ++ LQ) [46] SQ ⟨#[46]⟩ X2 W hX1.symm rfl hX2 (by simp; omega)
  obtain ⟨X3, hX3⟩ : ∃ s, bts ((([] ++ LQ) ++ [46]) ++ LT) = s := ⟨_, rfl⟩
  have r3 := fun W => add_is (([] ++ LQ) ++ [46]) LT X2 ST X3 W hX2.symm hST.symm hX3 (by simp; omega)
  obtain ⟨X5, hX5⟩ : ∃ s, bts (LN ++ [47]) = s := ⟨_, rfl⟩
  have r5 := fun W => add_is LN [47] SN ⟨#[47]⟩ X5 W hSN.symm rfl hX5 (by simp; omega)
  obtain ⟨X6, hX6⟩ : ∃ s, bts ((LN ++ [47]) ++ LD) = s := ⟨_, rfl⟩
  have r6 := fun W => add_is (LN ++ [47]) LD X5 SD X6 W hX5.symm hSD.symm hX6 (by simp; omega)
  have HX3 := Lib.hid hX3
  have HX6 := Lib.hid hX6
  have HLT := Lib.hid hLT
  clear hX1 hX2 hX3 hX5 hX6 hSQ hSP hSN hSD hSE hST hLT lLQ lLP lLN lLD lLT hnP
  go_enter Tryz.func54, Tryz.ntmps54
  go_wp2_with fail
  refine (HV.out _).mono ?_
  rintro e w1 ⟨rfl, hb1⟩
  have B1 := keepH hb1 (g := w.heap.size) (blk_new rfl)
  have cB := cellH B1
  have hw1 : Below w.heap.size w w1 := stepH (by (repeat' (first | with_reducible exact Below.refl _ _ | with_reducible assumption | with_reducible refine Below.drew ?_ | with_reducible refine below_drewN ?_ _ | with_reducible refine Below.setCell ?_ ?_ _ | with_reducible refine Below.alloc ?_ ?_ _ | omega | (simp; done) | (simp; omega)))) hb1
  by_cases hd1 : d = 1
  · subst hd1
    go_wp2_with fail
    refine (ILN.out _ (HT.out.below hw1)).mono ?_
    rintro e w2 ⟨rfl, hb2⟩
    have hw2 := stepH hw1 hb2
    go_wp2_with fail
    go_ret
    exact ⟨by rw [print_whole, HLN.out, HSN.out]; rfl, hw2⟩
  have hdb1 : (d == 1) = false := by simpa using hd1
  have HD1 := Lib.hid hd1
  clear hd1
  by_cases hMz : M = 0
  · have hMb : (M != 0) = false := by simp [hMz]
    have HMZ := Lib.hid hMz
    clear hMz
    go_wp2_with fail
    refine (ILQ.out _ (HT.out.below hw1)).mono ?_
    rintro e w4 ⟨rfl, hb4⟩
    have B4 := keepH hb4 B1.out
    have hw4 : Below w.heap.size w w4 := stepH hw1 hb4
    have cE := cellH B4
    have cD := cellH (w := w4.drew) B4
    clear cB
    go_wp2_with fail
    go_region_held3 (fun w' => ∀ o, w'.cell? ⟨w.heap.size, o, none⟩ = #[.int .i64 n, .int .i64 d][o]?) (first | with_reducible exact cD | with_reducible exact d0 | go_keep)
      (first | (go_at_call 75; refine (ILP.out _ (HT.out.below hw4.drew)).mono ?_; rintro e w5 ⟨rfl, hb5⟩; have hw5 : Below w.heap.size w w5 := stepH hw4.drew hb5; have B5 := keepH (stepH (Below.refl w4.heap.size w4).drew hb5) B4.out; have d0 := cellH B5))
    go_wp2_with fail
    refine (ITR.out _).mono ?_
    rintro e w6 ⟨rfl, hb6⟩
    have hw6 : Below w.heap.size w w6 := stepH hw5 hb6
    go_wp2_with fail
    go_ret
    have hres : X3 = bts (printL n d) := by
      rw [← HX3.out, print_part HVV.out HD1.out (HML.out.trans HMZ.out)]
      unfold behind
      rw [HPL.out, HLP.out, HLT.out, HSG.out, HNQ.out, HLQ.out, List.append_assoc ([] ++ LQ)]
      rfl
    exact ⟨by rw [← hres]; rfl, hw6⟩
  · have hMb : (M != 0) = true := by simpa using hMz
    have HMZ := Lib.hid hMz
    clear hMz
    have hbd : Below w1.heap.size w1 w1.drew := (Below.refl _ _).drew
    have hwd : Below w.heap.size w w1.drew := hw1.drew
    have cD := cellH (w := w1.drew) B1
    go_wp2_with fail
    go_region_held3 (fun w' => ∀ o, w'.cell? ⟨w.heap.size, o, none⟩ = #[.int .i64 n, .int .i64 d][o]?) (first | with_reducible exact cD | with_reducible exact d0 | go_keep)
      (first | (go_at_call 75; refine (ILN.out _ (HT.out.below hwd)).mono ?_; rintro e w4 ⟨rfl, hb4⟩; have hw4 : Below w.heap.size w w4 := stepH hwd hb4; have B4 := keepH (stepH hbd hb4) B1.out; have d0 := cellH B4) | (go_at_call 75; refine (ILD.out _ (HT.out.below hw4)).mono ?_; rintro e w5 ⟨rfl, hb5⟩; have hw5 : Below w.heap.size w w5 := stepH hw4 hb5; have B5 := keepH hb5 B4.out; have d1 := cellH B5))
    go_wp2_with fail
    go_ret
    have hres : X6 = bts (printL n d) := by
      rw [← HX6.out]
      rw [print_frac (by rw [HML.out]; exact HMZ.out), HLN.out, HLD.out]
      rw [List.append_assoc LN]
      rfl
    exact ⟨by rw [← hres]; rfl, hw5⟩
set_option maxRecDepth 100000 in
set_option maxHeartbeats 8000000 in
theorem printRN_any (n d : Int) (w : World) (hv : validB n d = true) (hT : PowT w) (hn : n < 0) :
    Calls Tryz.prog 54 #[.agg #[.int .i64 n, .int .i64 d]] w fun e w' => e = .returned (.string (bts (printL n d))) ∧ Below w.heap.size w w' := by
  obtain ⟨hin, hid⟩ := validB_in hv
  have hb := of_decide_eq_true (show decide _ = true from hv)
  obtain ⟨d1, d2, n1, n2, _⟩ := hb
  have HV := Lib.hid (fun W => validR_is n d true W hv hin hid)
  have HT := Lib.hid hT
  have HVV := Lib.hid hv
  have hd0 : d ≠ 0 := by omega
  have hdb : (d == 0) = false := by simpa using hd0
  obtain ⟨N, hN⟩ : ∃ N : Int, (n.natAbs : Int) = N := ⟨_, rfl⟩
  have hN0 : 0 ≤ N := by omega
  have hN1 : N ≤ 1000000000000 := by omega
  have hmx : max n (wrap64 (-n)) = N := by rw [show wrap64 (-n) = -n by unfold wrap64; omega]; omega
  have hmx2 : max n (-n) = N := by omega
  have hwn : wrap64 (-n) = -n := by unfold wrap64; omega
  have HPB := Lib.hid (part_bound (n := n) d1 d2)
  rw [hN] at HPB
  have HSG := Lib.hid (sgn_neg hn)
  have tm : (1000000 : Int).tmod d = 1000000 % d := Int.tmod_eq_emod_of_nonneg (by decide)
  obtain ⟨M, hM⟩ : ∃ M, (1000000 : Int) % d = M := ⟨_, rfl⟩
  rw [hM] at tm
  have tq : N.tdiv d = N / d := Int.tdiv_eq_ediv_of_nonneg hN0
  have tr : N.tmod d = N % d := Int.tmod_eq_emod_of_nonneg hN0
  have tt : (1000000 : Int).tdiv d = 1000000 / d := Int.tdiv_eq_ediv_of_nonneg (by decide)
  have q0 : 0 ≤ N / d := Int.ediv_nonneg hN0 (by omega)
  have q1 : N / d ≤ N := Int.ediv_le_self _ hN0
  obtain ⟨Q, hQ⟩ : ∃ Q, N / d = Q := ⟨_, rfl⟩
  obtain ⟨R, hR⟩ : ∃ R, N % d = R := ⟨_, rfl⟩
  obtain ⟨V, hV⟩ : ∃ V, (1000000 : Int) / d = V := ⟨_, rfl⟩
  obtain ⟨P, hP⟩ : ∃ P, R * V = P := ⟨_, rfl⟩
  rw [hQ] at tq q0 q1
  rw [hR] at tr
  rw [hV] at tt
  rw [hR, hV, hP] at HPB
  have HML := Lib.hid hM
  have HNQ : Hid ((n.natAbs : Int) / d = Q) := Lib.hid (by show _ = _; rw [hN, hQ])
  have HPL : Hid ((n.natAbs : Int) % d * (1000000 / d) = P) := Lib.hid (by show _ = _; rw [hN, hR, hV, hP])
  obtain ⟨hp0, hp1, hr0, hr1, hv0, hv1⟩ := HPB.out
  have hwP2 : wrap64 (1000000 + P) = 1000000 + P := by unfold wrap64; omega
  have hwP3 : IntKind.i64.wrap (1000000 + P) = 1000000 + P := by rw [IntKind.wrap_i64]; omega
  have hwV : IntKind.i64.wrap V = V := by rw [IntKind.wrap_i64]; omega
  have hwR : IntKind.i64.wrap R = R := by rw [IntKind.wrap_i64]; omega
  have hwRV : IntKind.i64.wrap (R * V) = P := by rw [hP, IntKind.wrap_i64]; omega
  clear hP
  clear hQ hR hV hN hM hv hT hin hid HPB
  have e0 : decide (n < 0) = true := decide_eq_true hn
  obtain ⟨LQ, hLQ⟩ : ∃ l, Lib.itoa Q = l := ⟨_, rfl⟩
  have lLQ : LQ.length ≤ 21 := by rw [← hLQ]; exact itoa_len (by omega) (by omega)
  have ILQ := Lib.hid (fun (W : World) (hT : PowT W) => itoa_any Q W (by omega) (by omega) hT)
  rw [hLQ] at ILQ
  obtain ⟨LP, hLP⟩ : ∃ l, Lib.itoa (1000000 + P) = l := ⟨_, rfl⟩
  have lLP : LP.length ≤ 21 := by rw [← hLP]; exact itoa_len (by omega) (by omega)
  have ILP := Lib.hid (fun (W : World) (hT : PowT W) => itoa_any (1000000 + P) W (by omega) (by omega) hT)
  rw [hLP] at ILP
  obtain ⟨LN, hLN⟩ : ∃ l, Lib.itoa n = l := ⟨_, rfl⟩
  have lLN : LN.length ≤ 21 := by rw [← hLN]; exact itoa_len (by omega) (by omega)
  have ILN := Lib.hid (fun (W : World) (hT : PowT W) => itoa_any n W (by omega) (by omega) hT)
  rw [hLN] at ILN
  obtain ⟨LD, hLD⟩ : ∃ l, Lib.itoa d = l := ⟨_, rfl⟩
  have lLD : LD.length ≤ 21 := by rw [← hLD]; exact itoa_len (by omega) (by omega)
  have ILD := Lib.hid (fun (W : World) (hT : PowT W) => itoa_any d W (by omega) (by omega) hT)
  rw [hLD] at ILD
  have pLP : 1 ≤ LP.length := by rw [← hLP]; exact itoa_ne _
  have HLQ := Lib.hid hLQ
  have HLP := Lib.hid hLP
  have HLN := Lib.hid hLN
  have HLD := Lib.hid hLD
  clear hLQ hLP hLN hLD
  obtain ⟨SQ, hSQ⟩ : ∃ s, bts LQ = s := ⟨_, rfl⟩
  obtain ⟨SP, hSP⟩ : ∃ s, bts LP = s := ⟨_, rfl⟩
  obtain ⟨SN, hSN⟩ : ∃ s, bts LN = s := ⟨_, rfl⟩
  obtain ⟨SD, hSD⟩ : ∃ s, bts LD = s := ⟨_, rfl⟩
  have HSN := Lib.hid hSN
  rw [hSQ] at ILQ
  rw [hSP] at ILP
  rw [hSN] at ILN
  rw [hSD] at ILD
  obtain ⟨LT, hLT⟩ : ∃ l, Lib.trimRightB (LP.drop 1) 48 = l := ⟨_, rfl⟩
  have lLT : LT.length ≤ 21 := by rw [← hLT]; exact Nat.le_trans (trimR_len _ _) (by rw [List.length_drop]; omega)
  have ITR := Lib.hid (fun (W : World) => zeros_any (LP.drop 1) W (by rw [List.length_drop]; omega))
  rw [hLT] at ITR
  have hsP : SP.size = LP.length := by rw [← hSP, bts_size]
  have hxP : SP.extract 1 LP.length = bts (LP.drop 1) := by
    rw [← hSP]; apply ByteArray.ext; simp [bts]; rw [List.take_of_length_le (by simp)]
  obtain ⟨SE, hSE⟩ : ∃ s, bts (LP.drop 1) = s := ⟨_, rfl⟩
  rw [hSE] at ITR hxP
  obtain ⟨ST, hST⟩ : ∃ s, bts LT = s := ⟨_, rfl⟩
  rw [hST] at ITR
  obtain ⟨nP, hnP⟩ : ∃ n, LP.length = n := ⟨_, rfl⟩
  rw [hnP] at hsP hxP pLP
  have hnP2 : nP ≤ 21 := by omega
  obtain ⟨X1, hX1⟩ : ∃ s, bts ([45] ++ LQ) = s := ⟨_, rfl⟩
  have r1 := fun W => add_is [45] LQ ⟨#[45]⟩ SQ X1 W rfl hSQ.symm hX1 (by simp; omega)
  obtain ⟨X2, hX2⟩ : ∃ s, bts (([45] ++ LQ) ++ [46]) = s := ⟨_, rfl⟩
  have r2 := fun W => add_is ([45] ++ LQ) [46] X1 ⟨#[46]⟩ X2 W hX1.symm rfl hX2 (by simp; omega)
  obtain ⟨X3, hX3⟩ : ∃ s, bts ((([45] ++ LQ) ++ [46]) ++ LT) = s := ⟨_, rfl⟩
  have r3 := fun W => add_is (([45] ++ LQ) ++ [46]) LT X2 ST X3 W hX2.symm hST.symm hX3 (by simp; omega)
  obtain ⟨X5, hX5⟩ : ∃ s, bts (LN ++ [47]) = s := ⟨_, rfl⟩
  have r5 := fun W => add_is LN [47] SN ⟨#[47]⟩ X5 W hSN.symm rfl hX5 (by simp; omega)
  obtain ⟨X6, hX6⟩ : ∃ s, bts ((LN ++ [47]) ++ LD) = s := ⟨_, rfl⟩
  have r6 := fun W => add_is (LN ++ [47]) LD X5 SD X6 W hX5.symm hSD.symm hX6 (by simp; omega)
  have HX3 := Lib.hid hX3
  have HX6 := Lib.hid hX6
  have HLT := Lib.hid hLT
  clear hX1 hX2 hX3 hX5 hX6 hSQ hSP hSN hSD hSE hST hLT lLQ lLP lLN lLD lLT hnP
  go_enter Tryz.func54, Tryz.ntmps54
  go_wp2_with fail
  refine (HV.out _).mono ?_
  rintro e w1 ⟨rfl, hb1⟩
  have B1 := keepH hb1 (g := w.heap.size) (blk_new rfl)
  have cB := cellH B1
  have hw1 : Below w.heap.size w w1 := stepH (by (repeat' (first | with_reducible exact Below.refl _ _ | with_reducible assumption | with_reducible refine Below.drew ?_ | with_reducible refine below_drewN ?_ _ | with_reducible refine Below.setCell ?_ ?_ _ | with_reducible refine Below.alloc ?_ ?_ _ | omega | (simp; done) | (simp; omega)))) hb1
  by_cases hd1 : d = 1
  · subst hd1
    go_wp2_with fail
    refine (ILN.out _ (HT.out.below hw1)).mono ?_
    rintro e w2 ⟨rfl, hb2⟩
    have hw2 := stepH hw1 hb2
    go_wp2_with fail
    go_ret
    exact ⟨by rw [print_whole, HLN.out, HSN.out]; rfl, hw2⟩
  have hdb1 : (d == 1) = false := by simpa using hd1
  have HD1 := Lib.hid hd1
  clear hd1
  by_cases hMz : M = 0
  · have hMb : (M != 0) = false := by simp [hMz]
    have HMZ := Lib.hid hMz
    clear hMz
    go_wp2_with fail
    refine (ILQ.out _ (HT.out.below hw1)).mono ?_
    rintro e w4 ⟨rfl, hb4⟩
    have B4 := keepH hb4 B1.out
    have hw4 : Below w.heap.size w w4 := stepH hw1 hb4
    have cE := cellH B4
    have cD := cellH (w := w4.drew) B4
    clear cB
    go_wp2_with fail
    go_region_held3 (fun w' => ∀ o, w'.cell? ⟨w.heap.size, o, none⟩ = #[.int .i64 n, .int .i64 d][o]?) (first | with_reducible exact cD | with_reducible exact d0 | go_keep)
      (first | (go_at_call 75; refine (ILP.out _ (HT.out.below hw4.drew)).mono ?_; rintro e w5 ⟨rfl, hb5⟩; have hw5 : Below w.heap.size w w5 := stepH hw4.drew hb5; have B5 := keepH (stepH (Below.refl w4.heap.size w4).drew hb5) B4.out; have d0 := cellH B5))
    go_wp2_with fail
    refine (ITR.out _).mono ?_
    rintro e w6 ⟨rfl, hb6⟩
    have hw6 : Below w.heap.size w w6 := stepH hw5 hb6
    go_wp2_with fail
    go_ret
    have hres : X3 = bts (printL n d) := by
      rw [← HX3.out, print_part HVV.out HD1.out (HML.out.trans HMZ.out)]
      unfold behind
      rw [HPL.out, HLP.out, HLT.out, HSG.out, HNQ.out, HLQ.out, List.append_assoc ([45] ++ LQ)]
      rfl
    exact ⟨by rw [← hres]; rfl, hw6⟩
  · have hMb : (M != 0) = true := by simpa using hMz
    have HMZ := Lib.hid hMz
    clear hMz
    have hbd : Below w1.heap.size w1 w1.drew := (Below.refl _ _).drew
    have hwd : Below w.heap.size w w1.drew := hw1.drew
    have cD := cellH (w := w1.drew) B1
    go_wp2_with fail
    go_region_held3 (fun w' => ∀ o, w'.cell? ⟨w.heap.size, o, none⟩ = #[.int .i64 n, .int .i64 d][o]?) (first | with_reducible exact cD | with_reducible exact d0 | go_keep)
      (first | (go_at_call 75; refine (ILN.out _ (HT.out.below hwd)).mono ?_; rintro e w4 ⟨rfl, hb4⟩; have hw4 : Below w.heap.size w w4 := stepH hwd hb4; have B4 := keepH (stepH hbd hb4) B1.out; have d0 := cellH B4) | (go_at_call 75; refine (ILD.out _ (HT.out.below hw4)).mono ?_; rintro e w5 ⟨rfl, hb5⟩; have hw5 : Below w.heap.size w w5 := stepH hw4 hb5; have B5 := keepH hb5 B4.out; have d1 := cellH B5))
    go_wp2_with fail
    go_ret
    have hres : X6 = bts (printL n d) := by
      rw [← HX6.out]
      rw [print_frac (by rw [HML.out]; exact HMZ.out), HLN.out, HLD.out]
      rw [List.append_assoc LN]
      rfl
    exact ⟨by rw [← hres]; rfl, hw5⟩
end

section
open Go.RowKit Go.Maps

set_option maxRecDepth 100000 in
set_option maxHeartbeats 1000000 in
theorem lineT_any (c : Ch) (P : ByteArray) (w : World) (hs : c.name.size ≤ 64) (hp : P.size ≤ 100) (hT : PowT w) (hP : c.clear = false → ∀ W : World, PowT W → Calls Tryz.prog 73 #[.agg #[.int .i64 c.n, .int .i64 c.d]] W fun e w' => e = .returned (.string P) ∧ Below W.heap.size W w') :
    Calls Tryz.prog 49 #[chV c] w fun e w' => e = .returned (.string (lineS P c)) ∧ Below w.heap.size w w' := by
  obtain ⟨name, cl, n, d⟩ := c
  dsimp only at hs hP
  have HT := Lib.hid hT
  clear hT
  unfold chV lineS
  dsimp only
  cases cl with
  | true =>
    clear hP
    go_enter Tryz.func49, Tryz.ntmps49
    go_wp2_with fail
    go_ret
    exact ⟨rfl, by (repeat' (first | with_reducible exact Below.refl _ _ | with_reducible assumption | with_reducible refine Below.drew ?_ | with_reducible refine below_drewN ?_ _ | with_reducible refine Below.setCell ?_ ?_ _ | with_reducible refine Below.alloc ?_ ?_ _ | omega | (simp; done) | (simp; omega)))⟩
  | false =>
    have HP := Lib.hid (hP rfl)
    clear hP
    go_enter Tryz.func49, Tryz.ntmps49
    go_wp2_with fail
    obtain ⟨u, hu⟩ : ∃ u, w.alloc (.cells #[.string name, .bool false, .int .i64 n, .int .i64 d] 41) = u := ⟨_, rfl⟩
    have hbu : Below w.heap.size w u := by rw [← hu]; (repeat' (first | with_reducible exact Below.refl _ _ | with_reducible assumption | with_reducible refine Below.drew ?_ | with_reducible refine below_drewN ?_ _ | with_reducible refine Below.setCell ?_ ?_ _ | with_reducible refine Below.alloc ?_ ?_ _ | omega | (simp; done) | (simp; omega)))
    have BU : Hid (u.heap[w.heap.size]? = some (.cells #[.string name, .bool false, .int .i64 n, .int .i64 d] 41 (0, 0))) := Lib.hid (by rw [← hu]; exact blk_new rfl)
    rw [hu]
    clear hu
    have hbd : Below u.heap.size u u.drew := (Below.refl _ _).drew
    have x1 := cellH (w := u.drew) BU
    have zu := hbu.size
    obtain ⟨x1', hx1⟩ : ∃ x, (⟨#[115, 101, 116, 32]⟩ : ByteArray) ++ name = x := ⟨_, rfl⟩
    obtain ⟨x2', hx2⟩ : ∃ x, x1' ++ (⟨#[32]⟩ : ByteArray) = x := ⟨_, rfl⟩
    obtain ⟨x3', hx3⟩ : ∃ x, x2' ++ P = x := ⟨_, rfl⟩
    have s1 : x1'.size = 4 + name.size := by rw [← hx1, ByteArray.size_append]; rfl
    have s2 : x2'.size = x1'.size + 1 := by rw [← hx2, ByteArray.size_append]; rfl
    have r1 := fun W => concat_is ⟨#[115, 101, 116, 32]⟩ name x1' W (by show 4 + name.size ≤ _; omega) hx1
    have r2 := fun W => concat_is x1' ⟨#[32]⟩ x2' W (by show x1'.size + 1 ≤ _; omega) hx2
    have r3 := fun W => concat_is x2' P x3' W (by omega) hx3
    have HX3 : Hid (((⟨#[115, 101, 116, 32]⟩ ++ name) ++ ⟨#[32]⟩) ++ P = x3') := Lib.hid (by rw [hx1, hx2, hx3])
    clear hx1 hx2 hx3 s1 s2 hs hp
    go_region_held3 (fun w' => ∀ o, w'.cell? ⟨w.heap.size, o, none⟩ = #[.string name, .bool false, .int .i64 n, .int .i64 d][o]?) (first | with_reducible exact x1 | with_reducible exact d1)
      (first | (go_at_call 73; refine (HP.out _ (HT.out.below (hbu.trans (hbd.mono zu)))).mono ?_; rintro e w5 ⟨rfl, hb5⟩; have hb5' : Below u.heap.size u w5 := stepH hbd hb5; have P5 := keepH hb5' BU.out; have d1 := cellH P5))
    go_wp2_with fail
    go_ret
    exact ⟨by rw [HX3.out]; rfl, stepH hbu hb5'⟩

set_option maxRecDepth 100000 in
set_option maxHeartbeats 8000000 in
theorem linesT_any (a M N : Nat) (f : Am) (l : List Ch) (P : Ch → ByteArray) (w : World) (h : AmAt w a M f N) (hT : PowT w) (hN : N ≤ 1000) (hl : Canon f l) (hs : ∀ c ∈ l, c.name.size ≤ 64 ∧ (P c).size ≤ 100) (hP : ∀ c ∈ l, c.clear = false → ∀ W : World, PowT W → Calls Tryz.prog 73 #[.agg #[.int .i64 c.n, .int .i64 c.d]] W fun e w' => e = .returned (.string (P c)) ∧ Below W.heap.size W w') :
    Calls Tryz.prog 21 #[.pointer (some ⟨a, 0, none⟩)] w fun e w' => (∃ v, e = .returned v ∧ Own encS 1 9 w.heap.size w' v (l.map (fun c => lineS (P c) c))) ∧ Below w.heap.size w w' := by
  obtain ⟨inf0, hi, jz0, jz1, jz2⟩ := info_parts infoS
  obtain ⟨MC, hMC, hmk⟩ : ∃ MC : Array Value, MC.size = N * 1 ∧ ∀ w : World, (Instr.makeSlice 50 (.int .i64 0) (.int .i64 (N : Int))).run Tryz.prog w = .ok (.slice (some ⟨w.heap.size, 0, none⟩) 0 N) (w.alloc (.cells MC 9)) := by
    refine ⟨madeCells (Value.string ⟨#[]⟩).cells (N * inf0.size), by rw [size_madeCells, jz1], fun w => ?_⟩
    have h := run_make (P := Tryz.prog) (w := w) 50 9 inf0 _ Tryz.underlying50 hi jz0 .i64 .i64 0 (N : Int) (Int.le_refl _) (by omega) (by rw [jz2]; omega) (by omega)
    simpa using h
  have HH := Lib.hid h
  obtain ⟨D, hown, hr, hz⟩ := h.own
  have BX := Lib.hid h.box
  have cB := cellH BX
  have HL := Lib.hid hl
  have HLI := Lib.hid (fun c (hc : c ∈ l) (W : World) (hW : PowT W) => lineT_any c (P c) W (hs c hc).1 (hs c hc).2 hW (hP c hc))
  have HT := Lib.hid hT
  clear h hr hl hs hP hT
  go_enter Tryz.func21, Tryz.ntmps21
  go_wp2_with (at_len; refine wpList_len_own _ rfl _ 79 rfl 9 77 Tryz.underlying79 RV M N D rfl hown ?_; rw [hz])
  clear hown
  have hb1 : Below w.heap.size w (w.alloc (.cells MC 9)) := by (repeat' (first | with_reducible exact Below.refl _ _ | with_reducible assumption | with_reducible refine Below.drew ?_ | with_reducible refine below_drewN ?_ _ | with_reducible refine Below.setCell ?_ ?_ _ | with_reducible refine Below.alloc ?_ ?_ _ | omega | (simp; done) | (simp; omega)))
  have HO1 : Hid (Own encS 1 9 w.heap.size (w.alloc (.cells MC 9)) (.slice (some ⟨w.heap.size, 0, none⟩) 0 N) []) := Lib.hid (made_own rfl (Nat.le_refl _) (by unfold maxLen; omega) hMC)
  refine (changes_any a M N f _ (HH.out.step hb1) (by omega)).mono ?_
  rintro e w2 ⟨⟨v2, l2, rfl, hown2, hc2, hn2⟩, hb2⟩
  obtain ⟨A2, c2, rfl, hr2, _, hfar⟩ := own_line (fun x _ => chL_len x) hown2
  obtain rfl := hc2.unique HL.out
  have hw2 : Below w.heap.size w w2 := stepH hb1 hb2
  have HR2 := Lib.hid hr2
  have HFA : Hid (∀ q, A2 = some q → w.heap.size + 1 ≤ q.block) := Lib.hid (fun q hq => by have := hfar q hq; simp at this; omega)
  have HO2 := Lib.hid (HO1.out.below hb2)
  clear hown2 hc2 hr2 hfar hmk HO1 hb2 cB
  rw [hn2]
  go_wp2_with fail
  go_loopw [3, 15] (fun u i wr => ∃ (k : Nat) (L : List ByteArray), k ≤ N ∧ i = .int .i64 k ∧ Hid (Own encS 1 9 w.heap.size wr u L) ∧ Hid (L = (l2.take k).map (fun c => lineS (P c) c)) ∧ L.length = k ∧ OnlyL [w.heap.size] w2 wr ∧ Below w.heap.size w wr ∧ Hid (∀ g, u.ownBlock = some g → g = w.heap.size ∨ w2.heap.size ≤ g)) (fun _ i _ => N - (intOf i).toNat)
  case atStart => exact ⟨0, [], Nat.zero_le _, rfl, HO2, Lib.hid rfl, rfl, OnlyL.refl _ _, hw2, Lib.hid (fun g hg => .inl (by simp [Value.ownBlock] at hg; omega))⟩
  case round =>
    obtain ⟨k, L, hk, rfl, HROW, HMAP, hLk, hw3, hwr, HBK⟩ := hrel
    have z3 := hw3.size
    have z2 := hw2.size
    have z4 := hwr.size
    by_cases hlt : k < N
    · obtain ⟨c, hc⟩ : ∃ x, l2[k]? = some x := ⟨l2[k]'(by omega), List.getElem?_eq_getElem _⟩
      have HX := Lib.hid hc
      have HLC := Lib.hid (HLI.out c (List.mem_of_getElem? hc))
      obtain ⟨g, off, rfl, hg, c0, c1, c2', c3⟩ := cellsC HR2.out hc
      have hne : g ≠ w.heap.size := fun e => by have := HFA.out _ rfl; simp at this; omega
      have hcell : ∀ o v, w2.cell? ⟨g, o, none⟩ = some v → wr.cell? ⟨g, o, none⟩ = some v := fun o v h => (World.cell?_of_block (w := w2) (w' := wr) (a := ⟨g, o, none⟩) (hw3.block g hg (by simpa using hne))).trans h
      have p0 := hcell _ _ c0
      have p1 := hcell _ _ c1
      have p2 := hcell _ _ c2'
      have p3 := hcell _ _ c3
      have HRW := Lib.hid HROW.out
      have hlt2 : (k : Int) < (N : Int) := by omega
      have hlt3 : (k : Int) < (l2.length : Int) := by omega
      clear hc c0 c1 c2' c3 hcell hg
      go_wp2_with fail
      refine (HLC.out _ (HT.out.below (stepH hwr (by (repeat' (first | with_reducible exact Below.refl _ _ | with_reducible assumption | with_reducible refine Below.drew ?_ | with_reducible refine below_drewN ?_ _ | with_reducible refine Below.setCell ?_ ?_ _ | with_reducible refine Below.alloc ?_ ?_ _ | omega | (simp; done) | (simp; omega))))))).mono ?_
      rintro e w4 ⟨rfl, hb4⟩
      have hb4' : Below wr.heap.size wr w4 := stepH (by (repeat' (first | with_reducible exact Below.refl _ _ | with_reducible assumption | with_reducible refine Below.drew ?_ | with_reducible refine below_drewN ?_ _ | with_reducible refine Below.setCell ?_ ?_ _ | with_reducible refine Below.alloc ?_ ?_ _ | omega | (simp; done) | (simp; omega)))) hb4
      have z5 := hb4'.size
      have HRW4 := Lib.hid (own_below HRW.out hb4')
      go_wp2_with (at_builtin; go_must (refine wpList_append_lies _ rfl (.tmp 19) (.tmp 22) 50 rfl w.heap.size 9 inf0 _ 1 16 Tryz.underlying50 hi jz0 jz1 jz2 rfl (by decide) _ L.length _ rfl (own_below HRW4.out (by (repeat' (first | with_reducible exact Below.refl _ _ | with_reducible assumption | with_reducible refine Below.drew ?_ | with_reducible refine below_drewN ?_ _ | with_reducible refine Below.setCell ?_ ?_ _ | with_reducible refine Below.alloc ?_ ?_ _ | omega | (simp; done) | (simp; omega))))) ⟨w4.heap.size, 0, none⟩ 1 1 [.string (lineS (P c) c)] rfl rfl (World.news_of_block (cs := #[.string (lineS (P c) c)]) (blk_new rfl)) (by simp [Value.oneCell']) (by decide) (by unfold maxLen; omega) (by omega) (by simp; omega) _ rfl ?_); intro g9 c9 w9 hown9 hgrow9 hat9 hlt9)
      go_roundw
      case rel =>
        refine ⟨k + 1, L ++ [lineS (P c) c], by omega, by go_num, Lib.hid (by have q := Own.snoc hown9 rfl rfl; rw [hLk] at q; exact q), Lib.hid (by rw [HMAP.out, take_snoc HX.out]; simp), by simp; omega, ?_, ?_, Lib.hid (fun g hg => ?_)⟩
        · refine ⟨hgrow9.os.trans (hb4'.os.trans hw3.os), hgrow9.tape.trans (hb4'.tape.trans hw3.tape), hgrow9.output.trans (hb4'.output.trans hw3.output), by have := hgrow9.size; simp at this; omega, fun i hi hn => ?_⟩
          have e1 := hgrow9.block i (by simp; omega) (fun e => by
            rcases HBK.out i e.symm with h | h
            · exact hn (by simp [h])
            · omega)
          exact e1.trans ((Below.heap_alloc _ _ i (by omega)).trans ((hb4'.block i (by omega)).trans (hw3.block i hi hn)))
        · exact Below.grown (Below.alloc (stepH hwr hb4') (by omega) _) hgrow9 (by simp; omega) (fun g hg => by
            have := HRW.out.lt g hg
            omega)
        · rcases hat9 with h | h
          · exact HBK.out g (Eq.trans h (by simpa [Value.ownBlock] using hg))
          · simp [Value.ownBlock] at hg; simp at h; omega
      case measure => simp [intOf] <;> omega
    · obtain rfl : k = N := by omega
      have hlt2 : ¬ (k : Int) < (k : Int) := by omega
      have hLi : L = l2.map (fun c => lineS (P c) c) := by rw [HMAP.out, List.take_of_length_le (by omega)]
      have HRES := Lib.hid (hLi ▸ HROW.out)
      clear hLi
      go_wp2_with fail
      go_ret
      exact ⟨⟨_, rfl, HRES.out⟩, hwr⟩

/-- what is printed of a change's amount -/
def amtB (c : Ch) : ByteArray := bts (printL c.n c.d)
theorem printP_all (n d : Int) (w : World) (hv : validB n d = true) (hT : PowT w) :
    Calls Tryz.prog 73 #[.agg #[.int .i64 n, .int .i64 d]] w fun e w' => e = .returned (.string (bts (printL n d))) ∧ Below w.heap.size w w' := by
  rcases Int.lt_or_le n 0 with h | h
  · exact printN_any n d w hv hT h
  · exact printP_any n d w hv hT h
theorem printR_all (n d : Int) (w : World) (hv : validB n d = true) (hT : PowT w) :
    Calls Tryz.prog 54 #[.agg #[.int .i64 n, .int .i64 d]] w fun e w' => e = .returned (.string (bts (printL n d))) ∧ Below w.heap.size w w' := by
  rcases Int.lt_or_le n 0 with h | h
  · exact printRN_any n d w hv hT h
  · exact printRP_any n d w hv hT h
theorem printL_len {n d : Int} (h : validB n d = true) : (printL n d).length ≤ 100 := by
  obtain ⟨d1, d2, n1, n2, _⟩ := of_decide_eq_true (show decide _ = true from h)
  have l1 := itoa_len (n := n) (by omega) (by omega)
  have l2 := itoa_len (n := d) (by omega) (by omega)
  have q0 : 0 ≤ (n.natAbs : Int) / d := Int.ediv_nonneg (by omega) (by omega)
  have q1 : (n.natAbs : Int) / d ≤ n.natAbs := Int.ediv_le_self _ (by omega)
  have l3 := itoa_len (n := (n.natAbs : Int) / d) (by omega) (by omega)
  have hp := part_bound (n := n) d1 d2
  have l4 := itoa_len (n := 1000000 + (n.natAbs : Int) % d * (1000000 / d)) (by omega) (by omega)
  have l5 := trimR_len ((Lib.itoa (1000000 + (n.natAbs : Int) % d * (1000000 / d))).drop 1) 48
  have ls : (sgn n).length ≤ 1 := by unfold sgn; split <;> simp
  rw [List.length_drop] at l5
  unfold printL behind
  split
  · split
    · simp only [List.length_append, List.length_cons]; omega
    · simp only [List.length_append]; omega
  · simp only [List.length_append, List.length_cons]; omega
theorem amtB_size {c : Ch} (h : validB c.n c.d = true) : (amtB c).size ≤ 100 := by
  unfold amtB
  rw [bts_size]; exact printL_len h

set_option maxRecDepth 100000 in
set_option maxHeartbeats 8000000 in
theorem linesR_any (l : List Ch) (A : Option Addr) (cp : Nat) (w : World) (hl : RowAt chL 4 w w.heap.size A l) (hN : l.length ≤ 1000) (hs : ∀ c ∈ l, c.name.size ≤ 64 ∧ (c.clear = false → validB c.n c.d = true)) (hT : PowT w) :
    Calls Tryz.prog 26 #[.slice A l.length cp] w fun e w' => (∃ v, e = .returned v ∧ Own encS 1 9 w.heap.size w' v (l.map (fun c => lineS (amtB c) c))) ∧ Below w.heap.size w w' := by
  obtain ⟨inf0, hi, jz0, jz1, jz2⟩ := info_parts infoS
  have HL := Lib.hid hl
  have HS := Lib.hid hs
  have HT := Lib.hid hT
  clear hl hs hT
  go_enter Tryz.func26, Tryz.ntmps26
  go_wp2_with fail
  go_loopw [3, 4] (fun u i wr => ∃ (k : Nat) (L : List ByteArray), k ≤ l.length ∧ i = .int .i64 k ∧ Hid (Own encS 1 9 w.heap.size wr u L) ∧ Hid (L = (l.take k).map (fun c => lineS (amtB c) c)) ∧ L.length = k ∧ Below w.heap.size w wr) (fun _ i _ => l.length - (intOf i).toNat)
  case atStart => exact ⟨0, [], Nat.zero_le _, rfl, Lib.hid Own.nil, Lib.hid rfl, rfl, Below.refl _ _⟩
  case round =>
    obtain ⟨k, L, hk, rfl, HROW, HMAP, hLk, hwr⟩ := hrel
    have zr := hwr.size
    by_cases hlt : k < l.length
    · obtain ⟨⟨nm, cr, n, d⟩, hx⟩ : ∃ x, l[k]? = some x := ⟨l[k], List.getElem?_eq_getElem hlt⟩
      have hlt2 : (k : Int) < (l.length : Int) := by omega
      obtain ⟨hs1, hs2⟩ := HS.out _ (List.mem_of_getElem? hx)
      obtain ⟨g, off, rfl, hg, c0, c1, c2, c3⟩ := cellsC (HL.out.below hwr (Nat.le_refl _)) hx
      dsimp only at c0 c1 c2 c3 hs1 hs2
      have HX := Lib.hid hx
      have HRW := Lib.hid HROW.out
      clear hx
      cases cr with
      | true =>
        obtain ⟨X, hX⟩ : ∃ X, (⟨#[99, 108, 101, 97, 114, 32]⟩ : ByteArray) ++ nm = X := ⟨_, rfl⟩
        have r1 := fun W => concat_is ⟨#[99, 108, 101, 97, 114, 32]⟩ nm X W (by show 6 + nm.size ≤ _; omega) hX
        have HLX : Hid (lineS (amtB ⟨nm, true, n, d⟩) ⟨nm, true, n, d⟩ = X) := Lib.hid (by rw [← hX]; rfl)
        clear hX
        go_wp2_with (at_builtin; go_must (refine wpList_append_lies _ rfl (.tmp 16) (.tmp 23) 50 rfl w.heap.size 9 inf0 _ 1 16 Tryz.underlying50 hi jz0 jz1 jz2 rfl (by decide) _ L.length _ rfl (own_below HRW.out (by (repeat' (first | with_reducible exact Below.refl _ _ | with_reducible assumption | with_reducible refine Below.drew ?_ | with_reducible refine below_drewN ?_ _ | with_reducible refine Below.setCell ?_ ?_ _ | with_reducible refine Below.alloc ?_ ?_ _ | omega | (simp; done) | (simp; omega))))) ⟨wr.heap.size, 0, none⟩ 1 1 [.string X] rfl rfl (World.news_of_block (cs := #[.string X]) (blk_new rfl)) (by simp [Value.oneCell']) (by decide) (by unfold maxLen; omega) (by omega) (by simp; omega) _ rfl ?_); intro g9 c9 w9 hown9 hgrow9 hat9 hlt9)
        go_roundw
        case rel => exact ⟨k + 1, L ++ [X], by omega, by go_num, Lib.hid (by have q := Own.snoc hown9 rfl rfl; rw [hLk] at q; exact q), Lib.hid (by rw [HMAP.out, take_snoc HX.out, List.map_append]; simp only [List.map_cons, List.map_nil, HLX.out]), by simp; omega, Below.grown (Below.alloc hwr (by omega) _) hgrow9 (by simp; omega) (fun g hg => by have := (HRW.out.lt g hg).1; omega)⟩
        case measure => simp [intOf] <;> omega
      | false =>
        have hv := hs2 rfl
        obtain ⟨S, hS⟩ : ∃ S, amtB ⟨nm, false, n, d⟩ = S := ⟨_, rfl⟩
        have hsz : S.size ≤ 100 := by rw [← hS]; exact amtB_size (c := ⟨nm, false, n, d⟩) hv
        have HPR := Lib.hid (fun (W : World) (hW : PowT W) => printR_all n d W hv hW)
        rw [show bts (printL n d) = S from hS] at HPR
        obtain ⟨X1, hX1⟩ : ∃ X, (⟨#[115, 101, 116, 32]⟩ : ByteArray) ++ nm = X := ⟨_, rfl⟩
        obtain ⟨X2, hX2⟩ : ∃ X, X1 ++ (⟨#[32]⟩ : ByteArray) = X := ⟨_, rfl⟩
        obtain ⟨X, hX⟩ : ∃ X, X2 ++ S = X := ⟨_, rfl⟩
        have s1 : X1.size = 4 + nm.size := by rw [← hX1, ByteArray.size_append]; rfl
        have s2 : X2.size = X1.size + 1 := by rw [← hX2, ByteArray.size_append]; rfl
        have r1 := fun W => concat_is ⟨#[115, 101, 116, 32]⟩ nm X1 W (by show 4 + nm.size ≤ _; omega) hX1
        have r2 := fun W => concat_is X1 ⟨#[32]⟩ X2 W (by show X1.size + 1 ≤ _; omega) hX2
        have r3 := fun W => concat_is X2 S X W (by omega) hX
        have HLX : Hid (lineS (amtB ⟨nm, false, n, d⟩) ⟨nm, false, n, d⟩ = X) := Lib.hid (by rw [← hX, ← hX2, ← hX1, ← hS]; rfl)
        have hwd : Below w.heap.size w wr.drew := hwr.drew
        have hdd : Below wr.heap.size wr wr.drew := (Below.refl _ _).drew
        have HNB := Lib.hid (fun k e => (HRW.out.lt k e).1)
        clear hX1 hX2 hX hS s1 s2 hs1 hs2 hv hsz
        have x0 : wr.drew.cell? ⟨g, off + k * 4, none⟩ = some (.string nm) := c0
        have x2 : wr.drew.cell? ⟨g, off + k * 4 + 2, none⟩ = some (.int .i64 n) := c2
        have x3 : wr.drew.cell? ⟨g, off + k * 4 + 3, none⟩ = some (.int .i64 d) := c3
        have lg : g < wr.heap.size := by omega
        go_wp2_with fail
        go_region_held_law (fun w' => w'.cell? ⟨g, off + k * 4, none⟩ = some (.string nm) ∧ w'.cell? ⟨g, off + k * 4 + 2, none⟩ = some (.int .i64 n) ∧ w'.cell? ⟨g, off + k * 4 + 3, none⟩ = some (.int .i64 d)) (first | with_reducible exact ⟨x0, x2, x3⟩ | with_reducible exact ⟨d0, d2, d3⟩ | go_keep)
          (first
            | (go_at_call 54; refine (HPR.out _ (HT.out.below hwd)).mono ?_; rintro e w5 ⟨rfl, hb5⟩; have hb5' : Below wr.heap.size wr w5 := stepH hdd hb5; have HO5 := Lib.hid (own_below HRW.out hb5'); have d0 := cell_at c0 hb5'; have d2 := cell_at c2 hb5'; have d3 := cell_at c3 hb5'; have z5 := hb5'.size; have hw5 := stepH hwr hb5')
            | (refine step_append_lies _ (by rfl) (.tmp 25) (.tmp 40) 50 (by rfl) w.heap.size 9 inf0 _ 1 16 Tryz.underlying50 hi jz0 jz1 jz2 rfl (by decide) _ L.length _ (by rfl) (HO5.out.alloc _) ⟨w5.heap.size, 0, none⟩ 1 1 [.string X] (by rfl) rfl (fun j u hj => (World.news_of_block (cs := #[.string X]) (blk_new rfl) j u hj)) (by simp [Value.oneCell']) (by decide) (by unfold maxLen; omega) (by omega) (by simp; omega) _ rfl ?_; intro g9 c9 w9 hown9 hgrow9 hat9 hlt9; have d0 := (World.grownBy.cell_far hgrow9 ⟨g, off + k * 4, none⟩ (by simp; omega) (fun e => by have h9 := HNB.out _ e.symm; dsimp only at h9; omega)).trans (cell_alloc d0); have d2 := (World.grownBy.cell_far hgrow9 ⟨g, off + k * 4 + 2, none⟩ (by simp; omega) (fun e => by have h9 := HNB.out _ e.symm; dsimp only at h9; omega)).trans (cell_alloc d2); have d3 := (World.grownBy.cell_far hgrow9 ⟨g, off + k * 4 + 3, none⟩ (by simp; omega) (fun e => by have h9 := HNB.out _ e.symm; dsimp only at h9; omega)).trans (cell_alloc d3)))
        go_wp2_with fail
        go_roundw
        case rel => exact ⟨k + 1, L ++ [X], by omega, by go_num, Lib.hid (by have q := Own.snoc hown9 rfl rfl; rw [hLk] at q; exact q), Lib.hid (by rw [HMAP.out, take_snoc HX.out, List.map_append]; simp only [List.map_cons, List.map_nil, HLX.out]), by simp; omega, Below.grown (Below.alloc hw5 (by omega) _) hgrow9 (by simp; omega) (fun g hg => HNB.out g hg)⟩
        case measure => simp [intOf] <;> omega
    · obtain rfl : k = l.length := by omega
      have hlt2 : ¬ (l.length : Int) < (l.length : Int) := by omega
      have hLi : L = l.map (fun c => lineS (amtB c) c) := by rw [HMAP.out, List.take_length]
      have HRES := Lib.hid (hLi ▸ HROW.out)
      clear hLi
      go_wp2_with fail
      go_ret
      exact ⟨⟨_, rfl, HRES.out⟩, hwr⟩
end

section
open Go.RowKit Go.Maps

/-- the datum of an amendment's map says f; the boxes lie behind B -/
structure ReadB (B : Nat) (w : World) (D : DataW Value) (f : Am) : Prop where
  isMap : IsMap D
  has : ∀ x, Maps.has D (.string x) = (f x).isSome
  at' : ∀ x c, f x = some c → nmb c = x ∧ c.name.size ≤ maxLen ∧ ∃ g, B ≤ g ∧ (∀ z, D.atKey (.string x) z = .held (enV c g)) ∧ BoxC w g c
section
variable {B : Nat} {w w' : World} {D : DataW Value} {f : Am}
theorem ReadB.read (h : ReadB B w D f) : ReadA w D f := ⟨h.isMap, h.has, fun x c e => by
  obtain ⟨h1, h2, g, _, h3, h4⟩ := h.at' x c e
  exact ⟨h1, h2, g, h3, h4⟩⟩
theorem ReadB.step (h : ReadB B w D f) (hb : Below w.heap.size w w') : ReadB B w' D f := ⟨h.isMap, h.has, fun x c e => by
  obtain ⟨h1, h2, g, h0, h3, h4⟩ := h.at' x c e
  exact ⟨h1, h2, g, h0, h3, (hb.block g (Array.getElem?_eq_some_iff.1 h4).1).trans h4⟩⟩
theorem ReadB.only {M : Nat} (h : ReadB B w D f) (ho : OnlyL [M] w w') (hm : ∃ es k, w.heap[M]? = some (.map es k)) : ReadB B w' D f := ⟨h.isMap, h.has, fun x c e => by
  obtain ⟨h1, h2, g, h0, h3, h4⟩ := h.at' x c e
  exact ⟨h1, h2, g, h0, h3, heap_only h4 ho hm⟩⟩
theorem ReadB.keep {L : List Nat} (h : ReadB B w D f) (ho : OnlyL L w w') (hL : ∀ k ∈ L, k < B) : ReadB B w' D f := ⟨h.isMap, h.has, fun x c e => by
  obtain ⟨h1, h2, g, h0, h3, h4⟩ := h.at' x c e
  exact ⟨h1, h2, g, h0, h3, (ho.block g (Array.getElem?_eq_some_iff.1 h4).1 (fun q => by have := hL g q; omega)).trans h4⟩⟩
theorem ReadB.nil (w : World) : ReadB B w (.map []) (fun _ => none) := ⟨isMap_empty, fun x => by rw [has_eq]; rfl, fun x v h => by cases h⟩
theorem ReadB.put (h : ReadB B w D f) {c : Ch} {g : Nat} (hB : B ≤ g) (hc : c.name.size ≤ maxLen) (hb : BoxC w g c) : ReadB B w (D.put (keyS c.name) (.held (enV c g))) (putA f c) where
  isMap := h.isMap.put _ _
  has x := by
    unfold putA
    by_cases e : x = nmb c
    · subst e; rw [if_pos rfl]; exact has_put_same h.isMap (strL_lit _) _
    · rw [if_neg e, has_put_other (show (Lit.string x) ≠ keyS c.name from fun q => e (by unfold keyS at q; injection q))]; exact h.has x
  at' x u hu := by
    unfold putA at hu
    by_cases e : x = nmb c
    · subst e
      rw [if_pos rfl] at hu
      injection hu with hu; subst hu
      exact ⟨rfl, hc, g, hB, fun z => atKey_put_same h.isMap (strL_lit _) _ z, hb⟩
    · rw [if_neg e] at hu
      obtain ⟨h1, h2, g', h0, h3, h4⟩ := h.at' x u hu
      exact ⟨h1, h2, g', h0, fun z => (atKey_put_other (show (Lit.string x) ≠ keyS c.name from fun q => e (by unfold keyS at q; injection q)) _ z).trans (h3 z), h4⟩
end
/-- an amendment in memory, its boxes behind B -/
structure AmFar (B : Nat) (w : World) (a M : Nat) (f : Am) (N : Nat) : Prop where
  box : w.heap[a]? = some (.cells #[.map (some M)] 81 (0, 0))
  own : ∃ D, w.ownsMap Tryz.prog 9 RV M N D ∧ ReadB B w D f ∧ Maps.size D = N
section
variable {B : Nat} {w w' : World} {a M : Nat} {f : Am} {N : Nat}
theorem AmFar.am (h : AmFar B w a M f N) : AmAt w a M f N := ⟨h.box, by obtain ⟨D, h1, h2, h3⟩ := h.own; exact ⟨D, h1, h2.read, h3⟩⟩
theorem AmFar.isMap (h : AmFar B w a M f N) : ∃ es c, w.heap[M]? = some (.map es c) := h.am.isMap
theorem AmFar.lt (h : AmFar B w a M f N) : a < w.heap.size ∧ M < w.heap.size := h.am.lt
theorem AmFar.step (h : AmFar B w a M f N) (hb : Below w.heap.size w w') : AmFar B w' a M f N where
  box := (hb.block a h.lt.1).trans h.box
  own := by
    obtain ⟨D, h1, h2, h3⟩ := h.own
    exact ⟨D, own_step h1 hb, h2.step hb, h3⟩
/-- it stays where blocks ahead of B turn -/
theorem AmFar.keep {g : Nat} (h : AmFar B w a M f N) (ho : OnlyL [g] w w') (hL : ∀ k ∈ [g], k < B) (ha : B ≤ a) (hM : B ≤ M) : AmFar B w' a M f N where
  box := (ho.block a h.lt.1 (fun q => by have := hL a q; omega)).trans h.box
  own := by
    obtain ⟨D, h1, h2, h3⟩ := h.own
    exact ⟨D, own_only h1 ho (fun e => by have := hL g (by simp); omega), h2.keep ho hL, h3⟩
theorem AmFar.put (h : AmFar B w a M f N) {c : Ch} {g : Nat} (hc : c.name.size ≤ maxLen) (hb : BoxC w g c) (hB : B ≤ g) (hN : N < 100000) :
    ∃ w', (Instr.mapUpdate 79 (.map (some M)) (.string c.name) (enV c g)).run Tryz.prog w = .ok () w' ∧ (∃ N', AmFar B w' a M (putA f c) N' ∧ N' ≤ N + 1) ∧ w.grownBy w' (some M) := by
  obtain ⟨D, hown, hr, hs⟩ := h.own
  obtain ⟨w4, hrun, hown4, hg4⟩ := hown.update lawS Tryz.underlying79 (by unfold maxLen; omega) (key := .string c.name) (val := enV c g) (keyS_of hc) (d := .held (enV c g)) (ps := []) rfl
  have hm := own_isMap hown
  have hsz := hown4.size_le
  exact ⟨w4, hrun, ⟨_, ⟨heap_turn h.box hg4 hm, _, own_tight hown4, (hr.put hB hc hb).only (only_turn hg4) hm, rfl⟩, hsz⟩, hg4⟩
theorem AmAt.far (h : AmAt w a M (fun _ => none) N) : AmFar B w a M (fun _ => none) N := ⟨h.box, by
  obtain ⟨D, h1, h2, h3⟩ := h.own
  exact ⟨D, h1, ⟨h2.isMap, h2.has, fun x c e => by cases e⟩, h3⟩⟩
end
def MakeB (E : Nat → Addr) (w : World) (l : List Ch) (e : Ending) (w' : World) : Prop :=
  ((∀ c ∈ l, mayE c = none) ∧ ∃ a M N, e = .returned (.tuple #[.pointer (some ⟨a, 0, none⟩), .nilIface]) ∧ AmFar w.heap.size w' a M (makeF l) N ∧ N ≤ l.length ∧ w.heap.size ≤ a ∧ w.heap.size ≤ M) ∨
  ((∃ c ∈ l, mayE c ≠ none) ∧ ∃ g, g ∈ LA ∧ e = .returned (.tuple #[.pointer none, errA E (some g)]))
set_option maxRecDepth 100000 in
set_option maxHeartbeats 8000000 in
theorem makeB_any (l : List Ch) (A : Option Addr) (cp : Nat) (E : Nat → Addr) (m : Int) (w : World) (hl : RowAt chL 4 w w.heap.size A l) (hn : l.length ≤ 500) (hI : ∀ c ∈ l, InC c) (hE : Env LA E w) (hm : w.cell? ⟨4, 0, none⟩ = some (.int .i64 m)) :
    Calls Tryz.prog 16 #[.slice A l.length cp] w fun e w' => MakeB E w l e w' ∧ Below w.heap.size w w' := by
  have HL := Lib.hid hl
  have HI := Lib.hid hI
  have HE := Lib.hid hE
  have HM := Lib.hid hm
  clear hl hI hE hm
  go_enter Tryz.func16, Tryz.ntmps16
  go_wp2_with fail
  refine (none_any w).mono ?_
  rintro e w1 ⟨a, M, rfl, ha, hla, hlm, hb1⟩
  have HA := Lib.hid (ha.far (B := w.heap.size))
  have z1 := hb1.size
  have haM := ha.lt
  have hmp := ha.isMap
  clear ha
  go_wp2_with fail
  go_loopw [11] (fun i wr => ∃ k N : Nat, k ≤ l.length ∧ i = .int .i64 k ∧ N ≤ k ∧ Hid (AmFar w.heap.size wr a M (makeF (l.take k)) N) ∧ Hid (∀ c ∈ l.take k, mayE c = none) ∧ OnlyL [M] w1 wr) (fun i _ => l.length - (intOf i).toNat)
  case atStart => exact ⟨0, 0, Nat.zero_le _, rfl, Nat.le_refl _, HA, Lib.hid (fun c h => by simp at h), OnlyL.refl _ _⟩
  case round =>
    obtain ⟨k, N, hk, rfl, hNk, HAM, HOK, ho⟩ := hrel
    have z2 := ho.size
    have hwr : Below w.heap.size w wr := hb1.trans (ho.below z1 (fun k hk => by simp at hk; omega))
    by_cases hlt : k < l.length
    · have hlt2 : (k : Int) < (l.length : Int) := by omega
      obtain ⟨c, hx⟩ : ∃ x, l[k]? = some x := ⟨l[k], List.getElem?_eq_getElem hlt⟩
      obtain ⟨hin, hid⟩ := HI.out c (List.mem_of_getElem? hx)
      obtain ⟨g, off, rfl, hg, c0, c1, c2, c3⟩ := cellsC (row_only (row_step HL.out hb1) ho hmp) hx
      have HX := Lib.hid hx
      clear hx
      have hba : Below wr.heap.size wr (wr.alloc (.cells #[.string c.name, .bool c.clear, .int .i64 c.n, .int .i64 c.d] 41)) := by (repeat' (first | with_reducible exact Below.refl _ _ | with_reducible assumption | with_reducible refine Below.drew ?_ | with_reducible refine below_drewN ?_ _ | with_reducible refine Below.setCell ?_ ?_ _ | with_reducible refine Below.alloc ?_ ?_ _ | omega | (simp; done) | (simp; omega)))
      have PB : Hid ((wr.alloc (.cells #[.string c.name, .bool c.clear, .int .i64 c.n, .int .i64 c.d] 41)).heap[wr.heap.size]? = some (.cells #[.string c.name, .bool c.clear, .int .i64 c.n, .int .i64 c.d] 41 (0, 0))) := Lib.hid (blk_new rfl)
      have HAB := Lib.hid (HAM.out.step hba)
      have hwa : Below w.heap.size w (wr.alloc (.cells #[.string c.name, .bool c.clear, .int .i64 c.n, .int .i64 c.d] 41)) := stepH hwr hba
      cases hv : mayE c with
      | some v =>
        have hne := fun W => eql_nil (E v) W
        have HR : Hid (MakeB E w l (.returned (.tuple #[.pointer none, errA E (some v)])) w) := Lib.hid (.inr ⟨⟨c, List.mem_of_getElem? HX.out, by rw [hv]; simp⟩, v, mayE_in hv, rfl⟩)
        go_wp2_with fail
        refine (may_is c.name c.n c.d c.clear (some v) E m _ (HE.out.below hwa) (cell_at HM.out hwa) hin hid hv).mono ?_
        rintro e w3 ⟨rfl, hb3⟩
        have hw3 := stepH hwa hb3
        rw [show errA E (some v) = .iface 184 (.pointer (some (E v))) from rfl] at HR ⊢
        go_wp2_with fail
        go_ret2
        refine ⟨?_, hw3⟩
        rcases HR.out with ⟨_, a', M', N', h9, _⟩ | ⟨h8, v', h9, h10⟩
        · cases h9
        · exact .inr ⟨h8, v', h9, h10⟩
      | none =>
        have hns := mayE_size hv
        have hn2 : c.name.size ≤ maxLen := by unfold maxLen; omega
        go_wp2_with fail
        refine (may_is c.name c.n c.d c.clear none E m _ (HE.out.below hwa) (cell_at HM.out hwa) hin hid hv).mono ?_
        rintro e w3 ⟨rfl, hb3⟩
        have hw3 := stepH hwa hb3
        have PB3 := keepH hb3 PB.out
        have HA3 := Lib.hid (HAB.out.step hb3)
        have ho3 : OnlyL [M] w1 w3 := (ho.trans (only_step hba)).trans (only_step hb3)
        clear hb3 PB HAB c0 c1 c2 c3
        rw [show errA E none = .nilIface from rfl]
        go_wp2_with fail
        have BX := Lib.hid HA3.out.box
        have hbd : Below w3.heap.size w3 w3.drew := (Below.refl _ _).drew
        have x0 : w3.drew.cell? ⟨a, 0, none⟩ = some (.map (some M)) := cellH BX 0
        have x1 := cellH (w := w3.drew) PB3
        go_region_held3 (fun w' => w'.cell? ⟨a, 0, none⟩ = some (.map (some M)) ∧ ∀ o, w'.cell? ⟨wr.heap.size, o, none⟩ = #[.string c.name, .bool c.clear, .int .i64 c.n, .int .i64 c.d][o]?) (first | with_reducible exact ⟨x0, x1⟩ | with_reducible exact ⟨d0, d1⟩)
          (first | (go_at_call 38; refine (made_any c w3.drew).mono ?_; rintro e w5 ⟨⟨g5, rfl, hbx, hg5⟩, hb5⟩; have hb5' : Below w3.heap.size w3 w5 := stepH hbd hb5; have P5 := keepH hb5' PB3.out; have HA5 := Lib.hid (HA3.out.step hb5'); have B5 := Lib.hid HA5.out.box; obtain ⟨w6, hrunU, ⟨N6, hA6, hN6⟩, hg6⟩ := HA5.out.put hn2 hbx (Nat.le_trans (hw3.size) (by simp at hg5; omega)) (by omega); have hm5 := HA5.out.isMap; have d0 : w6.cell? ⟨a, 0, none⟩ = some (.map (some M)) := cellH (Lib.hid (heap_turn B5.out hg6 hm5)) 0; have d1 := cellH (Lib.hid (heap_turn P5.out hg6 hm5)); have x0 : w5.cell? ⟨a, 0, none⟩ = some (.map (some M)) := cellH B5 0; have x1 := cellH P5; have HA6 := Lib.hid hA6; have HG6 := Lib.hid hg6; have HB5 := Lib.hid hb5'; clear hb5 hA6 hg6 hbx))
        go_wp2_with fail
        go_roundw
        case rel =>
          refine ⟨k + 1, N6, by omega, by go_num, by omega, Lib.hid (by rw [makeF_snoc HX.out]; exact HA6.out), Lib.hid (fun q hq => ?_), (ho3.trans (only_step HB5.out)).trans (only_turn HG6.out)⟩
          rw [take_snoc HX.out] at hq
          rcases List.mem_append.1 hq with hq | hq
          · exact HOK.out q hq
          · simp at hq; subst hq; exact hv
        case measure => simp [intOf] <;> omega
    · obtain rfl : k = l.length := by omega
      have hlt2 : ¬ (l.length : Int) < (l.length : Int) := by omega
      have HAE : Hid (AmFar w.heap.size wr a M (makeF l) N) := Lib.hid (by have := HAM.out; rwa [List.take_length] at this)
      have HOE : Hid (∀ c ∈ l, mayE c = none) := Lib.hid (by have := HOK.out; rwa [List.take_length] at this)
      clear HAM HOK
      go_wp2_with fail
      refine (few_ok a M N _ wr HAE.out.am (by omega)).mono ?_
      rintro e w7 ⟨rfl, hb7⟩
      have HA7 := Lib.hid (HAE.out.step hb7)
      have hw7 := stepH hwr hb7
      go_wp2_with fail
      go_ret2
      exact ⟨.inl ⟨HOE.out, a, M, N, rfl, HA7.out, hNk, hla, hlm⟩, hw7⟩
end

section
open Go.RowKit Go.Maps

/-- a place of a row of the call's own -/
theorem own_place {W : World} {base e size g n cap i : Nat} {xs : List Value} (h : W.ownsRow base e size (.slice (some ⟨g, 0, none⟩) n cap) n xs) (hi : i < n * size) : (∃ u, W.cell? ⟨g, i, none⟩ = some u) ∧ W.frozen? ⟨g, i, none⟩ = false := by
  obtain ⟨hlen, hc⟩ := h
  rcases hc with ⟨h0, _⟩ | ⟨g', cap', cur, hv, hb, hg, h1, h2, h3, h4⟩
  · cases h0
  cases hv
  constructor
  · rw [cell_of_row W g i _ _ (0, 0) hg]
    have hi2 : i < cur.size := by rw [h3]; exact Nat.lt_of_lt_of_le hi (Nat.mul_le_mul_right _ h1)
    exact ⟨_, Array.getElem?_eq_getElem hi2⟩
  · simp [World.frozen?, hg]
theorem own_over3 {W : World} {base e g n cap k : Nat} {xs : List Value} (h : W.ownsRow base e 3 (.slice (some ⟨g, 0, none⟩) n cap) n xs) (hk : k < n) (a b c : Value) : (((W.setCell ⟨g, k * 3, none⟩ a).setCell ⟨g, k * 3 + 1, none⟩ b).setCell ⟨g, k * 3 + 2, none⟩ c).ownsRow base e 3 (.slice (some ⟨g, 0, none⟩) n cap) n (((xs.set (k * 3) a).set (k * 3 + 1) b).set (k * 3 + 2) c) :=
  own_set (own_set (own_set h (by omega) a) (by omega) b) (by omega) c
theorem own_over4 {W : World} {base e g n cap k : Nat} {xs : List Value} (h : W.ownsRow base e 4 (.slice (some ⟨g, 0, none⟩) n cap) n xs) (hk : k < n) (a b c d : Value) : ((((W.setCell ⟨g, k * 4, none⟩ a).setCell ⟨g, k * 4 + 1, none⟩ b).setCell ⟨g, k * 4 + 2, none⟩ c).setCell ⟨g, k * 4 + 3, none⟩ d).ownsRow base e 4 (.slice (some ⟨g, 0, none⟩) n cap) n ((((xs.set (k * 4) a).set (k * 4 + 1) b).set (k * 4 + 2) c).set (k * 4 + 3) d) :=
  own_set (own_set (own_set (own_set h (by omega) a) (by omega) b) (by omega) c) (by omega) d
/-- the block of a row -/
theorem own_blk {W : World} {base e size n cap : Nat} {A : Option Addr} {xs : List Value} (h : W.ownsRow base e size (.slice A n cap) n xs) (hn : 0 < n) : ∃ g, A = some ⟨g, 0, none⟩ ∧ base ≤ g ∧ g < W.heap.size := by
  obtain ⟨g, c, e1, h1, h2⟩ := h.form hn
  injection e1 with e1
  exact ⟨g, e1, h1, h2⟩
/-- a row stays where other blocks turn -/
theorem row_keep {α : Type} {enc : α → List Value} {size B : Nat} {w w' : World} {A : Option Addr} {l : List α} {L : List Nat} (h : RowAt enc size w w.heap.size A l) (ho : OnlyL L w w') (hA : ∀ a, A = some a → B ≤ a.block) (hL : ∀ k ∈ L, k < B) : RowAt enc size w' w'.heap.size A l := fun k x hx => by
  obtain ⟨g, off, e, hg, hc⟩ := h k x hx
  refine ⟨g, off, e, Nat.lt_of_lt_of_le hg ho.size, fun j u hj => ?_⟩
  exact (World.cell?_of_block (a := ⟨g, off + k * size + j, none⟩) (ho.block g hg (fun q => by have := hL g q; have := hA _ e; dsimp only at this; omega))).trans (hc j u hj)

/-- what Apply's answers hold -/
def ResA (l : List It) (s : St) (R : List It) : Prop := (faultI l ≠ none ∧ R = []) ∨ (faultI l = none ∧ CanonI s R)
theorem ResA.unique {l : List It} {s : St} {R R' : List It} (h : ResA l s R) (h' : ResA l s R') : R = R' := by
  rcases h with ⟨h, rfl⟩ | ⟨h, hc⟩
  · rcases h' with ⟨_, rfl⟩ | ⟨q, _⟩
    · rfl
    · exact absurd q h
  · rcases h' with ⟨q, _⟩ | ⟨_, hc'⟩
    · exact absurd h q
    · exact hc.unique hc'
theorem apply_own (a M N : Nat) (g : Am) (cl : List Ch) (l : List It) (A : Option Addr) (cp : Nat) (E : Nat → Addr) (m : Int) (w : World) (h : AmAt w a M g N) (hN : N ≤ 50000) (hl : RowAt itL 3 w w.heap.size A l) (hI : ∀ x ∈ l, InI x) (hE : Env LA E w) (hm : w.cell? ⟨4, 0, none⟩ = some (.int .i64 m)) (hA : A = none → cp = 0) (hok : okA g) (hc : Canon g cl) (h5 : cl.length + l.length ≤ 500) :
    Calls Tryz.prog 11 #[.pointer (some ⟨a, 0, none⟩), .slice A l.length cp] w fun e w' => (∃ v rs, e = .returned (.tuple #[v, errA E (faultI l)]) ∧ Own itL 3 53 w.heap.size w' v rs ∧ ResA l (app (inF l) g) rs ∧ rs.length ≤ 500) ∧ Below w.heap.size w w' := by
  refine (apply_any a M N g l A cp E m w h hN hl hI hE hm hA hok).mono ?_
  rintro e w' ⟨q, hb⟩
  refine ⟨?_, hb⟩
  rcases q with ⟨x, hx, _, rfl⟩ | ⟨hx, ⟨rs, hcan, q⟩⟩
  · exact ⟨_, [], by rw [hx], Own.nil, .inl ⟨by rw [hx]; simp, rfl⟩, by simp⟩
  · have hlen := hcan.len (app_names (in_names l) hc)
    simp only [List.length_append, List.length_map] at hlen
    rcases q with ⟨q1, v, rfl, hown⟩ | ⟨q1, _⟩
    · exact ⟨v, rs, by rw [hx]; rfl, hown, .inr ⟨hx, hcan⟩, q1⟩
    · omega
theorem applyR_own (cl : List Ch) (l : List It) (A B : Option Addr) (ca cb : Nat) (w : World) (hc : RowAt chL 4 w w.heap.size A cl) (hl : RowAt itL 3 w w.heap.size B l) (hI : ∀ x ∈ l, InI x) (hn : (cl.map nmb).Nodup) (h5 : cl.length + l.length ≤ 500) :
    Calls Tryz.prog 23 #[.slice A cl.length ca, .slice B l.length cb] w fun e w' => (∃ v rs, ∃ k : Int, e = .returned (.tuple #[v, .int .i64 k]) ∧ Own itL 3 53 w.heap.size w' v rs ∧ ResA l (app (inF l) (makeF cl)) rs ∧ (k = 0 ↔ faultI l = none)) ∧ Below w.heap.size w w' := by
  refine (applyR_any cl l A B ca cb w hc hl hI hn h5).mono ?_
  rintro e w' ⟨⟨q⟩, hb⟩
  refine ⟨?_, hb⟩
  rcases q with ⟨hf, v, rs, rfl, hown, hcan⟩ | ⟨hf, k, hk, rfl⟩
  · exact ⟨v, rs, 0, rfl, hown, .inr ⟨hf, hcan⟩, by simp [hf]⟩
  · exact ⟨_, [], k, rfl, Own.nil, .inl ⟨hf, rfl⟩, by simp [hf, hk]⟩
theorem errA_nil (E : Nat → Addr) (o : Option Nat) : errA E o = .nilIface ∨ ∃ g, o = some g ∧ errA E o = .iface 184 (.pointer (some (E g))) := by
  cases o with
  | none => exact .inl rfl
  | some g => exact .inr ⟨g, rfl, rfl⟩
end

end Go.Proofs.YtmoeoomlggjaaaaGreatDoor
