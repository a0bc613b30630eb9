/- Through: the walk. -/
import Derived.Test.YtcbglkkmblmbnaaDoorIndexB
namespace Go.Proofs.YtcbglkkmblmbnaaDoor
open Go.RowKit

def throughN (a unit mode : Int) (fs : List Rat) : Nat → Except Nat (List Int)
  | 0 => .ok []
  | k + 1 => match throughN a unit mode fs k with
    | .error g => .error g
    | .ok out => match growI (out.getLastD a) (fs.getD k 0).num (fs.getD k 0).den unit mode with
      | .error g => .error g
      | .ok y => .ok (out ++ [y])

/-- what Through answers -/
def throughI (a : Int) (levels : List Int) (unit mode : Int) : Except Nat (List Int) :=
  match chainI levels with
  | .error g => .error g
  | .ok fs => throughN a unit mode fs fs.length

theorem getD_fq {l : List Rat} {k : Nat} {x : Rat} (h : l[k]? = some x) : l.getD k 0 = x := by simp [List.getD, h]

theorem throughN_ok {a unit mode : Int} {fs : List Rat} {k : Nat} {out : List Int} {q : Rat} {y : Int} (h : throughN a unit mode fs k = .ok out) (hq : fs[k]? = some q) (hg : growI (out.getLastD a) q.num q.den unit mode = .ok y) : throughN a unit mode fs (k + 1) = .ok (out ++ [y]) := by
  unfold throughN
  rw [h, getD_fq hq]
  dsimp only
  rw [hg]

theorem throughN_err {a unit mode : Int} {fs : List Rat} {k : Nat} {out : List Int} {q : Rat} {g : Nat} (h : throughN a unit mode fs k = .ok out) (hq : fs[k]? = some q) (hg : growI (out.getLastD a) q.num q.den unit mode = .error g) : throughN a unit mode fs (k + 1) = .error g := by
  unfold throughN
  rw [h, getD_fq hq]
  dsimp only
  rw [hg]

theorem throughN_stays {a unit mode : Int} {fs : List Rat} {k m g : Nat} (h : throughN a unit mode fs k = .error g) (hm : k ≤ m) : throughN a unit mode fs m = .error g := by
  obtain ⟨d, rfl⟩ : ∃ d, m = k + d := ⟨m - k, by omega⟩
  clear hm
  induction d with
  | zero => exact h
  | succ d ih => show throughN a unit mode fs ((k + d) + 1) = _; unfold throughN; rw [ih]

theorem last_snoc (l : List Int) (y a : Int) : (l ++ [y]).getLastD a = y := by
  cases l with
  | nil => rfl
  | cons b r => exact List.getLast_concat (l := b :: r)

theorem growI_le {a fn fd unit mode y : Int} (h : growI a fn fd unit mode = .ok y) : -1000000000000 ≤ y ∧ y ≤ 1000000000000 := by
  unfold growI at h
  split at h
  · cases h
  · split at h
    · cases h
    · split at h
      · cases h
      · split at h
        · cases h
        · split at h
          · cases h
          · rename_i z hz
            cases h
            have := (round_ok hz).choose_spec.2.2.2.2.1
            obtain ⟨a, b, _⟩ := this
            exact ⟨a, b⟩

theorem chainN_len {l : List Int} {k : Nat} {fs : List Rat} (h : chainN l k = .ok fs) : fs.length = k := by
  induction k generalizing fs with
  | zero => cases h; rfl
  | succ k ih =>
    unfold chainN at h
    split at h
    · cases h
    · rename_i gs hg
      split at h
      · cases h
      · cases h; rw [List.length_append, ih hg]; rfl

theorem chain_len {l : List Int} {fs : List Rat} (h : chainI l = .ok fs) : fs.length = l.length - 1 := chainN_len h

/-- a list of whole numbers in new memory, or an error -/
def RetIs (E : Nat → Addr) (base : Nat) (r : Except Nat (List Int)) (e : Ending) (w' : World) : Prop :=
  match r with
  | .error g => e = .returned (.tuple #[.slice none 0 0, .iface 106 (.pointer (some (E g)))])
  | .ok l => ∃ v, e = .returned (.tuple #[v, .nilIface]) ∧ Own encI 1 3 base w' v l

theorem retIs_err {E : Nat → Addr} {base : Nat} {r : Except Nat (List Int)} {w' : World} {g : Nat} (h : r = .error g) : RetIs E base r (.returned (.tuple #[.slice none 0 0, .iface 106 (.pointer (some (E g)))])) w' := by subst h; rfl

theorem retIs_ok {E : Nat → Addr} {base : Nat} {r : Except Nat (List Int)} {w' : World} {v : Value} {l : List Int} (h : r = .ok l) (ho : Own encI 1 3 base w' v l) : RetIs E base r (.returned (.tuple #[v, .nilIface])) w' := by subst h; exact ⟨v, rfl, ho⟩

theorem own_base {α : Type} {enc : α → List Value} {size : Nat} {e base base' : Nat} {w : World} {v : Value} {l : List α} (h : Own enc size e base w v l) (hb : base' ≤ base) : Own enc size e base' w v l := by
  obtain ⟨h1, h2⟩ := h
  refine ⟨h1, ?_⟩
  rcases h2 with h2 | ⟨g, cap, cur, e1, e2, e3⟩
  · exact .inl h2
  · exact .inr ⟨g, cap, cur, e1, Nat.le_trans hb e2, e3⟩

set_option maxRecDepth 10000 in
set_option maxHeartbeats 8000000 in
theorem through_any (a : Int) (l : List Int) (A : Option Addr) (c : Nat) (unit mode : Int) (E : Nat → Addr) (w : World) (Ba : -9223372036854775808 ≤ a ∧ a ≤ 9223372036854775807) (hn : l.length ≤ 1000000) (hl : RowAt encI 1 w w.heap.size A l) (hI : ∀ x ∈ l, InI x)
    (Bu : -9223372036854775808 ≤ unit ∧ unit ≤ 9223372036854775807) (Bm : -9223372036854775808 ≤ mode ∧ mode ≤ 9223372036854775807) (hE : Env LI E w) :
    Calls Tryd.prog 29 #[.int .i64 a, .slice A l.length c, .int .i64 unit, .int .i64 mode] w fun e w' => RetIs E w.heap.size (throughI a l unit mode) e w' ∧ Below w.heap.size w w' := by
  obtain ⟨i0, hi, jz0, jz1, jz2⟩ := info_parts infoInt
  obtain ⟨Ba1, Ba2⟩ := Ba
  have HBu := Lib.hid Bu
  have HBm := Lib.hid Bm
  have HE := Lib.hid hE
  have HCH := Lib.hid (chain_any l A c E w hn hl hI hE)
  clear hE hl hI Bu Bm
  go_enter Tryd.func29, Tryd.ntmps29
  go_wp2_with fail
  refine HCH.out.mono ?_
  rintro e w1 ⟨hret, hb1⟩
  have hw1 := hb1
  cases hc : chainI l
  · rename_i g
    rw [hc] at hret
    have hret : e = _ := hret
    subst hret
    have HT : Hid (throughI a l unit mode = .error g) := by show throughI a l unit mode = _; unfold throughI; rw [hc]
    have hen := fun w => eql_nil (E g) w
    clear hc
    go_wp2_with fail
    go_ret2
    exact ⟨retIs_err HT.out, hw1⟩
  · rename_i fs
    rw [hc] at hret
    obtain ⟨v, rfl, hown, hg⟩ := hret
    obtain ⟨A1, c1, rfl, hc1, hm1, hr1⟩ := Own.rows (enc := encF) (size := 2) (fun _ _ => rfl) hown
    rw [List.length_map] at hc1 ⊢
    have HT : Hid (throughI a l unit mode = throughN a unit mode fs fs.length) := by show throughI a l unit mode = _; unfold throughI; rw [hc]
    have hfl : fs.length ≤ 1000000 := by
      have := chain_len hc
      omega
    have HE1 := Lib.hid (HE.out.below hb1)
    have HL := Lib.hid hr1
    have HG := Lib.hid hg
    have z1 := hw1.size
    clear hc hr1 hg hown hb1
    go_wp2_with (at_make; go_must (refine wpList_make_own _ rfl _ _ 22 rfl w1.heap.size 3 i0 _ 1 Tryd.underlying22 hi jz0 jz1 .i64 .i64 _ fs.length rfl rfl rfl (by rw [jz2]; omega) (by unfold maxLen; omega) (Nat.le_refl _) ?_); intro w0 hown0 hgrow0)
    have hb0 : Below w1.heap.size w1 w0 := (Below.refl _ _).grown hgrow0 (Nat.le_refl _) (fun k h => by cases h)
    go_loopw [0, 12, 28] (fun x v i wr => ∃ (k : Nat) (out : List Int) (xx : Int) (vv : Value), v = vv ∧ x = .int .i64 xx ∧ k ≤ fs.length ∧ i = .int .i64 k ∧ Hid (throughN a unit mode fs k = .ok out) ∧ Hid (out.length = k) ∧ Hid (xx = out.getLastD a) ∧ -9223372036854775808 ≤ xx ∧ xx ≤ 9223372036854775807 ∧ wr.ownsRow w1.heap.size 3 1 vv k (out.flatMap encI) ∧ Below w1.heap.size w1 wr) (fun _ _ i _ => fs.length - (intOf i).toNat)
    case atStart => exact ⟨0, [], a, _, rfl, rfl, Nat.zero_le _, rfl, rfl, rfl, rfl, Ba1, Ba2, hown0, hb0⟩
    case round =>
      obtain ⟨k, out, xx, vv, hvv, rfl, hk, rfl, hth, hlen, hxx, x1, x2, hown, hw0⟩ := hrel
      have hvv := hvv.symm
      subst hvv
      have z0 := hw0.size
      clear hb0
      by_cases hlt : k < fs.length
      · obtain ⟨q, hq⟩ : ∃ q, fs[k]? = some q := ⟨fs[k], List.getElem?_eq_getElem hlt⟩
        have hq' : (fs.map fq)[k]? = some (fq q) := by rw [List.getElem?_map, hq]; rfl
        obtain ⟨b, off, rfl, hbB, hcell⟩ := HL.out.below hw0 (Nat.le_refl _) k _ hq'
        have c0 : wr.cell? ⟨b, off + k * 2, none⟩ = some (.int .i64 q.num) := hcell 0 _ rfl
        have c1 : wr.cell? ⟨b, off + k * 2 + 1, none⟩ = some (.int .i64 q.den) := hcell 1 _ rfl
        have gq := HG.out q (List.mem_of_getElem? hq)
        have BQ := bds gq
        have HQ := Lib.hid hq
        clear hq hq' hcell gq
        cases hs : growI xx q.num q.den unit mode
        · rename_i g
          have HS := Lib.hid hs
          clear hs
          go_wp2_with fail
          refine (grow_any xx q.num q.den unit mode E _ ⟨x1, x2⟩ ⟨BQ.1, BQ.2.1⟩ ⟨BQ.2.2.1, BQ.2.2.2⟩ HBu.out HBm.out (HE1.out.below (by (repeat' (first | with_reducible exact Below.refl _ _ | with_reducible assumption | with_reducible refine Below.drew ?_ | with_reducible refine below_drewN ?_ _ | with_reducible refine Below.setCell ?_ ?_ _ | with_reducible refine Below.alloc ?_ ?_ _ | omega | (simp; done) | (simp; omega)))))).mono ?_
          rintro e w11 ⟨⟨n, err, rfl, hr⟩, hb11⟩
          have hw11 : Below w1.heap.size w1 w11 := stepH (by (repeat' (first | with_reducible exact Below.refl _ _ | with_reducible assumption | with_reducible refine Below.drew ?_ | with_reducible refine below_drewN ?_ _ | with_reducible refine Below.setCell ?_ ?_ _ | with_reducible refine Below.alloc ?_ ?_ _ | omega | (simp; done) | (simp; omega)))) hb11
          rw [HS.out] at hr
          obtain ⟨rfl, rfl⟩ := hr
          have F := keepH hb11 (g := wr.heap.size) (blk_new rfl)
          have z11 := hw11.size
          clear hb11 hw0 z0
          have cF := cellH F
          obtain ⟨lF, lF1, lF2⟩ := ltH F
          have hen := fun w => eql_nil (E g) w
          go_wp2_with fail
          go_ret2
          exact ⟨retIs_err (by rw [HT.out]; exact throughN_stays (throughN_err hth.out HQ.out (by rw [← hxx.out]; exact HS.out)) (by omega)), stepH hw1 hw11⟩
        · rename_i y
          have HS := Lib.hid hs
          clear hs
          go_wp2_with fail
          refine (grow_any xx q.num q.den unit mode E _ ⟨x1, x2⟩ ⟨BQ.1, BQ.2.1⟩ ⟨BQ.2.2.1, BQ.2.2.2⟩ HBu.out HBm.out (HE1.out.below (by (repeat' (first | with_reducible exact Below.refl _ _ | with_reducible assumption | with_reducible refine Below.drew ?_ | with_reducible refine below_drewN ?_ _ | with_reducible refine Below.setCell ?_ ?_ _ | with_reducible refine Below.alloc ?_ ?_ _ | omega | (simp; done) | (simp; omega)))))).mono ?_
          rintro e w12 ⟨⟨n, err, rfl, hr⟩, hb12⟩
          have hw12 : Below w1.heap.size w1 w12 := stepH (by (repeat' (first | with_reducible exact Below.refl _ _ | with_reducible assumption | with_reducible refine Below.drew ?_ | with_reducible refine below_drewN ?_ _ | with_reducible refine Below.setCell ?_ ?_ _ | with_reducible refine Below.alloc ?_ ?_ _ | omega | (simp; done) | (simp; omega)))) hb12
          rw [HS.out] at hr
          obtain ⟨rfl, rfl⟩ := hr
          have hP : Below wr.heap.size wr w12 := stepH (by (repeat' (first | with_reducible exact Below.refl _ _ | with_reducible assumption | with_reducible refine Below.drew ?_ | with_reducible refine below_drewN ?_ _ | with_reducible refine Below.setCell ?_ ?_ _ | with_reducible refine Below.alloc ?_ ?_ _ | omega | (simp; done) | (simp; omega)))) hb12
          have hown2 := own_below hown hP
          have F := keepH hb12 (g := wr.heap.size) (blk_new rfl)
          have z12 := hw12.size
          clear hb12 hw0 z0
          have cF := cellH F
          obtain ⟨lF, lF1, lF2⟩ := ltH F
          obtain ⟨y1, y2⟩ := growI_le HS.out
          go_wp2_with (at_builtin; go_must (refine wpList_append_own _ rfl (.tmp 43) (.tmp 45) 22 rfl w1.heap.size 3 i0 _ 1 8 Tryd.underlying22 hi jz0 jz1 jz2 rfl (by decide) _ k _ rfl (hown2.alloc _) ⟨w12.heap.size, 0, none⟩ 1 1 [.int .i64 n] rfl rfl (cell_one_new _ _ _) (by simp [Value.oneCell']) (by unfold maxLen; omega) (by omega) (by simp; omega) ?_); intro v' w9 hown9 hgrow9 _)
          go_roundw
          case rel =>
            refine ⟨k + 1, out ++ [n], n, _, rfl, rfl, by omega, by go_num, throughN_ok hth.out HQ.out (by rw [← hxx.out]; exact HS.out), ?_, ?_, by omega, by omega, ?_, ?_⟩
            · show _ = _
              rw [List.length_append, hlen.out]; rfl
            · exact (last_snoc out n a).symm
            · rw [List.flatMap_append]; simpa [encI] using hown9
            · exact (Below.alloc hw12 (by omega) _).grown hgrow9 (by simp; omega) (fun g hg => (hown2.lt g hg).1)
          case measure => simp [intOf]; omega
      · obtain rfl : k = fs.length := by omega
        go_wp2_with fail
        go_ret2
        exact ⟨retIs_ok (by rw [HT.out]; exact hth.out) (own_base (base := w1.heap.size) (by unfold Own; rw [hlen.out]; exact hown) z1), stepH hw1 hw0⟩

end Go.Proofs.YtcbglkkmblmbnaaDoor
