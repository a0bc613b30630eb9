/- Scale: the walk. -/
import Derived.Test.YtcbglkkmblmbnaaDoorIndexE
namespace Go.Proofs.YtcbglkkmblmbnaaDoor
open Go.RowKit

theorem cells_new (w : World) (l : List Value) (t : TypeId) : ∀ j u, l[j]? = some u → (w.alloc (.cells ⟨l⟩ t)).cell? ((⟨w.heap.size, 0, none⟩ : Addr).add j) = some u := by
  intro j u hj
  rw [Go.WideShapes.add_plain, Nat.zero_add, cell_of_row (w.alloc (.cells ⟨l⟩ t)) w.heap.size j ⟨l⟩ t (0, 0) (blk_new rfl)]
  simpa using hj

set_option maxHeartbeats 1000000 in
theorem whole_any (k : Int) (E : Nat → Addr) (w : World) (h1 : -9223372036854775808 ≤ k) (h2 : k ≤ 9223372036854775807) (hE : Env LF E w) :
    Calls Tryd.prog 24 #[.int .i64 k] w fun e w' => (∃ n d err, e = .returned (.tuple #[.agg #[.int .i64 n, .int .i64 d], err]) ∧ ResF E (makeR k 1) n d err) ∧ Below w.heap.size w w' := by
  have HE := Lib.hid hE
  clear hE
  go_enter Tryd.func24, Tryd.ntmps24
  go_wp2_with fail
  refine (make_any k 1 E _ (by omega) (by omega) (by omega) (by omega) (HE.out.below (by (repeat' (first | with_reducible exact Below.refl _ _ | with_reducible assumption | with_reducible refine Below.drew ?_ | with_reducible refine below_drewN ?_ _ | with_reducible refine Below.setCell ?_ ?_ _ | with_reducible refine Below.alloc ?_ ?_ _ | omega | (simp; done) | (simp; omega)))))).mono ?_
  rintro e w1 ⟨⟨n', d', err, rfl, hr⟩, hb1⟩
  have hw1 : Below w.heap.size w w1 := stepH (by (repeat' (first | with_reducible exact Below.refl _ _ | with_reducible assumption | with_reducible refine Below.drew ?_ | with_reducible refine below_drewN ?_ _ | with_reducible refine Below.setCell ?_ ?_ _ | with_reducible refine Below.alloc ?_ ?_ _ | omega | (simp; done) | (simp; omega)))) hb1
  have R := keepH hb1 (g := w.heap.size) (blk_new rfl)
  have z1 := hw1.size
  clear hb1
  have cR := cellH R
  obtain ⟨lR, lR1, lR2⟩ := ltH R
  have fzR := frozH R
  go_wp2_with fail
  refine bodyPost_ret (v := .tuple #[.agg #[.int .i64 n', .int .i64 d'], err]) (by simp [results, Tryd.results24, go_sem, cR]) rfl ⟨⟨_, _, _, rfl, hr⟩, by (repeat' (first | with_reducible exact Below.refl _ _ | with_reducible assumption | with_reducible refine Below.drew ?_ | with_reducible refine below_drewN ?_ _ | with_reducible refine Below.setCell ?_ ?_ _ | with_reducible refine Below.alloc ?_ ?_ _ | omega | (simp; done) | (simp; omega)))⟩

def encB (x : Rat × Rat) : List Value := [.int .i64 x.1.num, .int .i64 x.1.den, .int .i64 x.2.num, .int .i64 x.2.den]

theorem encB_len (x : Rat × Rat) : (encB x).length = 4 := rfl

theorem infoBracket : (Tryd.prog.info? 67).map (fun i => (i.zero, i.size, i.bytes)) = some (some (.agg #[.int .i64 0, .int .i64 0, .int .i64 0, .int .i64 0]), 4, 32) := by kernel_rfl

def lastT (tops : List Int) (k : Nat) : Int := if k = 0 then 0 else tops.getD (k - 1) 0

def risesN (tops : List Int) : Nat → Bool
  | 0 => true
  | k + 1 => risesN tops k && decide (lastT tops k < tops.getD k 0)

def fromR (tops : List Int) (k : Nat) : Except Nat Rat := if k = 0 then .ok 0 else makeR (tops.getD (k - 1) 0) 1

def scaleN (tops rates : List Int) (den : Int) : Nat → Except Nat (List (Rat × Rat))
  | 0 => .ok []
  | k + 1 => match scaleN tops rates den k with
    | .error g => .error g
    | .ok out => match makeR (rates.getD k 0) den with
      | .error g => .error g
      | .ok r => match fromR tops k with
        | .error g => .error g
        | .ok f => .ok (out ++ [(f, r)])

/-- what Scale answers -/
def scaleI (tops rates : List Int) (den : Int) : Except Nat (List (Rat × Rat)) :=
  if den = 0 then .error 5
  else if rates.length ≠ tops.length + 1 ∨ 32 < rates.length then .error 6
  else if risesN tops tops.length = false then .error 6
  else scaleN tops rates den rates.length

theorem risesN_stays {tops : List Int} {k m : Nat} (h : risesN tops k = false) (hm : k ≤ m) : risesN tops m = false := by
  obtain ⟨d, rfl⟩ : ∃ d, m = k + d := ⟨m - k, by omega⟩
  clear hm
  induction d with
  | zero => exact h
  | succ d ih => show (risesN tops (k + d) && _) = false; rw [ih]; rfl

theorem scaleN_stays {tops rates : List Int} {den : Int} {k m g : Nat} (h : scaleN tops rates den k = .error g) (hm : k ≤ m) : scaleN tops rates den m = .error g := by
  obtain ⟨d, rfl⟩ : ∃ d, m = k + d := ⟨m - k, by omega⟩
  clear hm
  induction d with
  | zero => exact h
  | succ d ih => show scaleN tops rates den ((k + d) + 1) = _; unfold scaleN; rw [ih]

theorem scaleN_rate {tops rates : List Int} {den : Int} {k g : Nat} {out : List (Rat × Rat)} {x : Int} (h : scaleN tops rates den k = .ok out) (hx : rates[k]? = some x) (hr : makeR x den = .error g) : scaleN tops rates den (k + 1) = .error g := by
  unfold scaleN
  rw [h, getD_of hx]
  dsimp only
  rw [hr]

theorem scaleN_from {tops rates : List Int} {den : Int} {k g : Nat} {out : List (Rat × Rat)} {x : Int} {r : Rat} (h : scaleN tops rates den k = .ok out) (hx : rates[k]? = some x) (hr : makeR x den = .ok r) (hf : fromR tops k = .error g) : scaleN tops rates den (k + 1) = .error g := by
  unfold scaleN
  rw [h, getD_of hx]
  dsimp only
  rw [hr]
  dsimp only
  rw [hf]

theorem scaleN_ok {tops rates : List Int} {den : Int} {k : Nat} {out : List (Rat × Rat)} {x : Int} {r f : Rat} (h : scaleN tops rates den k = .ok out) (hx : rates[k]? = some x) (hr : makeR x den = .ok r) (hf : fromR tops k = .ok f) : scaleN tops rates den (k + 1) = .ok (out ++ [(f, r)]) := by
  unfold scaleN
  rw [h, getD_of hx]
  dsimp only
  rw [hr]
  dsimp only
  rw [hf]

theorem fromR_zero (tops : List Int) {k : Nat} (h : k = 0) : fromR tops k = .ok 0 := by unfold fromR; rw [if_pos h]

theorem fromR_some {tops : List Int} {k : Nat} {x : Int} (h : k ≠ 0) (hx : tops[k - 1]? = some x) : fromR tops k = makeR x 1 := by unfold fromR; rw [if_neg h, getD_of hx]

theorem makeR_good {a b : Int} {f : Rat} (h : makeR b a = .ok f) : Good f := by
  unfold makeR goodR at h
  split at h
  · cases h
  · split at h
    · rename_i hg; cases h; exact hg
    · cases h

/-- brackets in new memory, or an error -/
def RetBs (E : Nat → Addr) (base : Nat) (r : Except Nat (List (Rat × Rat))) (e : Ending) (w' : World) : Prop :=
  match r with
  | .error g => e = .returned (.tuple #[.slice none 0 0, .iface 106 (.pointer (some (E g)))])
  | .ok l => ∃ v, e = .returned (.tuple #[v, .nilIface]) ∧ Own encB 4 67 base w' v l ∧ ∀ x ∈ l, Good x.1 ∧ Good x.2

theorem retBs_err {E : Nat → Addr} {base : Nat} {r : Except Nat (List (Rat × Rat))} {w' : World} {g : Nat} (h : r = .error g) : RetBs E base r (.returned (.tuple #[.slice none 0 0, .iface 106 (.pointer (some (E g)))])) w' := by subst h; rfl

theorem retBs_ok {E : Nat → Addr} {base : Nat} {r : Except Nat (List (Rat × Rat))} {w' : World} {v : Value} {l : List (Rat × Rat)} (h : r = .ok l) (ho : Own encB 4 67 base w' v l) (hg : ∀ x ∈ l, Good x.1 ∧ Good x.2) : RetBs E base r (.returned (.tuple #[v, .nilIface])) w' := by subst h; exact ⟨v, rfl, ho, hg⟩

set_option maxRecDepth 10000 in
set_option maxHeartbeats 8000000 in
theorem scale_any (a b : List Int) (den : Int) (A B : Option Addr) (c d : Nat) (E : Nat → Addr) (w : World) (hn : a.length ≤ 1000000) (hn2 : b.length ≤ 1000000) (ha : RowAt encI 1 w w.heap.size A a) (hb : RowAt encI 1 w w.heap.size B b) (hI : ∀ x ∈ a, InI x) (hJ : ∀ x ∈ b, InI x)
    (d1 : -9223372036854775808 ≤ den) (d2 : den ≤ 9223372036854775807) (hE : Env LI E w) :
    Calls Tryd.prog 33 #[.slice A a.length c, .slice B b.length d, .int .i64 den] w fun e w' => RetBs E w.heap.size (scaleI a b den) e w' ∧ Below w.heap.size w w' := by
  obtain ⟨i0, hi, jz0, jz1, jz2⟩ := info_parts infoBracket
  have HA := Lib.hid ha
  have HB := Lib.hid hb
  have HI := Lib.hid hI
  have HJ := Lib.hid hJ
  have HE := Lib.hid hE
  clear ha hb hI hJ hE
  by_cases h0 : den = 0
  · subst h0
    have hc' := HE.out.cell 5 (by decide)
    have HZ : Hid (scaleI a b 0 = .error 5) := by show _ = _; unfold scaleI; rw [if_pos rfl]
    go_enter Tryd.func33, Tryd.ntmps33
    go_wp2_with fail
    go_region
    all_goals go_wp2_with fail
    all_goals go_ret2
    all_goals exact ⟨retBs_err HZ.out, by (repeat' (first | with_reducible exact Below.refl _ _ | with_reducible assumption | with_reducible refine Below.drew ?_ | with_reducible refine below_drewN ?_ _ | with_reducible refine Below.setCell ?_ ?_ _ | with_reducible refine Below.alloc ?_ ?_ _ | omega | (simp; done) | (simp; omega)))⟩
  · have hz : (den == 0) = false := by simpa using h0
    have H0 := Lib.hid h0
    clear h0
    by_cases hp : b.length ≠ a.length + 1 ∨ 32 < b.length
    · have HZ : Hid (scaleI a b den = .error 6) := by show _ = _; unfold scaleI; rw [if_neg H0.out, if_pos hp]
      have hc' := HE.out.cell 6 (by decide)
      have two : ((b.length : Int) != (a.length : Int) + 1) = true ∨ (((b.length : Int) != (a.length : Int) + 1) = false ∧ 32 < b.length) := by
        by_cases e : b.length = a.length + 1
        · exact .inr ⟨by simp [e], by omega⟩
        · left
          rw [bne_iff_ne]
          omega
      clear hp
      rcases two with t1 | ⟨t1, t2⟩
      all_goals
        go_enter Tryd.func33, Tryd.ntmps33
        go_wp2_with fail
        go_region
        all_goals go_wp2_with fail
        all_goals go_ret2
        all_goals exact ⟨retBs_err HZ.out, by (repeat' (first | with_reducible exact Below.refl _ _ | with_reducible assumption | with_reducible refine Below.drew ?_ | with_reducible refine below_drewN ?_ _ | with_reducible refine Below.setCell ?_ ?_ _ | with_reducible refine Below.alloc ?_ ?_ _ | omega | (simp; done) | (simp; omega)))⟩
    · have hbl : b.length = a.length + 1 := by omega
      have hb32 : b.length ≤ 32 := by omega
      have t1 : ((b.length : Int) != (a.length : Int) + 1) = false := by simp [hbl]
      have HP := Lib.hid hp
      have ha32 : a.length ≤ 31 := by omega
      have hbx1 : b.length ≤ a.length + 1 := by omega
      have hbx2 : a.length + 1 ≤ b.length := by omega
      clear hp hbl
      go_enter Tryd.func33, Tryd.ntmps33
      go_wp2_with fail
      go_loop [8, 34] (fun v i => ∃ k : Nat, k ≤ a.length ∧ i = .int .i64 k ∧ v = .int .i64 (lastT a k) ∧ Hid (risesN a k = true)) (fun _ i => a.length - (intOf i).toNat)
      case atStart => exact ⟨0, Nat.zero_le _, rfl, rfl, rfl⟩
      case round =>
        obtain ⟨k, hk, rfl, rfl, hri⟩ := hrel
        by_cases hlt : k < a.length
        · obtain ⟨x, hx⟩ : ∃ x, a[k]? = some x := ⟨a[k], List.getElem?_eq_getElem hlt⟩
          obtain ⟨b1, off1, rfl, _, hc1⟩ := HA.out k _ hx
          have c0 : w.cell? ⟨b1, off1 + k, none⟩ = some (.int .i64 x) := by have := hc1 0 _ rfl; simpa using this
          obtain ⟨x1, x2⟩ := HI.out x (List.mem_of_getElem? hx)
          have hnext : lastT a (k + 1) = x := by unfold lastT; rw [if_neg (by omega)]; exact getD_of hx
          have HN := Lib.hid hnext
          have HR : Hid (risesN a (k + 1) = decide (lastT a k < x)) := by
            show (risesN a k && decide (lastT a k < a.getD k 0)) = _
            rw [hri.out, getD_of hx]; rfl
          have HX := Lib.hid hx
          clear hx hc1 hnext
          generalize lastT a k = t at *
          by_cases hle : x ≤ t
          · have HZ : Hid (scaleI a b den = .error 6) := by
              show _ = _
              unfold scaleI
              rw [if_neg H0.out, if_neg HP.out, if_pos]
              exact risesN_stays (k := k + 1) (by rw [HR.out]; exact decide_eq_false (by omega)) (by omega)
            have hc' := HE.out.cell 6 (by decide)
            go_wp2_with fail
            go_region
            all_goals go_wp2_with fail
            all_goals go_ret2
            all_goals exact ⟨retBs_err HZ.out, by (repeat' (first | with_reducible exact Below.refl _ _ | with_reducible assumption | with_reducible refine Below.drew ?_ | with_reducible refine below_drewN ?_ _ | with_reducible refine Below.setCell ?_ ?_ _ | with_reducible refine Below.alloc ?_ ?_ _ | omega | (simp; done) | (simp; omega)))⟩
          · go_wp2_with fail
            go_round
            case rel => exact ⟨k + 1, by omega, by go_num, by rw [HN.out], by show _ = _; rw [HR.out]; exact decide_eq_true (by omega)⟩
            case measure => simp [intOf]; omega
        · obtain rfl : k = a.length := by omega
          have HS : Hid (scaleI a b den = scaleN a b den b.length) := by
            show _ = _
            unfold scaleI
            rw [if_neg H0.out, if_neg HP.out, if_neg (by rw [hri.out]; simp)]
          clear hlt hk hri
          go_wp2_with (at_make; go_must (refine wpList_make_own _ rfl _ _ 61 rfl w.heap.size 67 i0 _ 4 Tryd.underlying61 hi jz0 jz1 .i64 .i64 _ b.length rfl rfl rfl (by rw [jz2]; omega) (by unfold maxLen; omega) (Nat.le_refl _) ?_); intro w0 hown0 hgrow0)
          have hb0 : Below w.heap.size w w0 := (Below.refl _ _).grown hgrow0 (Nat.le_refl _) (fun k h => by cases h)
          go_loopw [11, 49] (fun v i wr => ∃ (k : Nat) (out : List (Rat × Rat)) (vv : Value), v = vv ∧ k ≤ b.length ∧ i = .int .i64 k ∧ Hid (scaleN a b den k = .ok out) ∧ Hid (out.length = k) ∧ Hid (∀ x ∈ out, Good x.1 ∧ Good x.2) ∧ wr.ownsRow w.heap.size 67 4 vv k (out.flatMap encB) ∧ Below w.heap.size w wr) (fun _ i _ => b.length - (intOf i).toNat)
          case atStart => exact ⟨0, [], _, rfl, Nat.zero_le _, rfl, rfl, rfl, (fun x h => by simp at h), hown0, hb0⟩
          case round =>
            obtain ⟨k, out, vv, hvv, hk, rfl, hsc, hlen, hgd, hown, hw0⟩ := hrel
            have hvv := hvv.symm
            subst hvv
            have z0 := hw0.size
            clear hb0
            by_cases hlt : k < b.length
            · obtain ⟨x, hx⟩ : ∃ x, b[k]? = some x := ⟨b[k], List.getElem?_eq_getElem hlt⟩
              obtain ⟨b1, off1, rfl, hbB, hc1⟩ := HB.out.below hw0 (Nat.le_refl _) k _ hx
              have c0 : wr.cell? ⟨b1, off1 + k, none⟩ = some (.int .i64 x) := by have := hc1 0 _ rfl; simpa using this
              obtain ⟨x1, x2⟩ := HJ.out x (List.mem_of_getElem? hx)
              have HX := Lib.hid hx
              clear hx hc1
              go_wp2_with fail
              refine (make_any x den E _ x1 x2 d1 d2 ((HE.out.below (by (repeat' (first | with_reducible exact Below.refl _ _ | with_reducible assumption | with_reducible refine Below.drew ?_ | with_reducible refine below_drewN ?_ _ | with_reducible refine Below.setCell ?_ ?_ _ | with_reducible refine Below.alloc ?_ ?_ _ | omega | (simp; done) | (simp; omega))))).sub (by decide))).mono ?_
              rintro e w1 ⟨⟨n', d', err, rfl, hr⟩, hb1⟩
              have hw1 : Below w.heap.size w w1 := stepH (by (repeat' (first | with_reducible exact Below.refl _ _ | with_reducible assumption | with_reducible refine Below.drew ?_ | with_reducible refine below_drewN ?_ _ | with_reducible refine Below.setCell ?_ ?_ _ | with_reducible refine Below.alloc ?_ ?_ _ | omega | (simp; done) | (simp; omega)))) hb1
              clear c0
              have hP1 : Below wr.heap.size wr w1 := hb1
              have z1 := hw1.size
              clear hb1 hw0 z0
              cases hs : makeR x den
              · rename_i g
                rw [hs] at hr
                obtain ⟨rfl, rfl, rfl⟩ := hr
                have HM := Lib.hid hs
                clear hs
                have hen := fun w => eql_nil (E g) w
                go_wp2_with fail
                go_ret2
                exact ⟨retBs_err (by rw [HS.out]; exact scaleN_stays (scaleN_rate hsc.out HX.out HM.out) (by omega)), by (repeat' (first | with_reducible exact Below.refl _ _ | with_reducible assumption | with_reducible refine Below.drew ?_ | with_reducible refine below_drewN ?_ _ | with_reducible refine Below.setCell ?_ ?_ _ | with_reducible refine Below.alloc ?_ ?_ _ | omega | (simp; done) | (simp; omega)))⟩
              · rename_i q
                rw [hs] at hr
                obtain ⟨rfl, rfl, rfl⟩ := hr
                have gq := makeR_good hs
                have HQ := Lib.hid gq
                have NQ := num_le gq
                have HM := Lib.hid hs
                clear hs gq
                have zP1 := hP1.size
                have y1 := hw1.size
                by_cases h0k : k = 0
                · have HK := Lib.hid h0k
                  have hk1 : k ≤ 0 := by omega
                  clear h0k
                  go_upto_region 25 with fail
                  have hown2 := (own_below hown hP1).alloc (.cells #[.int .i64 q.num, .int .i64 q.den] 30) |>.alloc (.cells #[.int .i64 0, .int .i64 1] 30)
                  have hw2 : Below w.heap.size w ((w1.alloc (.cells #[.int .i64 q.num, .int .i64 q.den] 30)).alloc (.cells #[.int .i64 0, .int .i64 1] 30)) := by (repeat' (first | with_reducible exact Below.refl _ _ | with_reducible assumption | with_reducible refine Below.drew ?_ | with_reducible refine below_drewN ?_ _ | with_reducible refine Below.setCell ?_ ?_ _ | with_reducible refine Below.alloc ?_ ?_ _ | omega | (simp; done) | (simp; omega)))
                  have RT : Hid (((w1.alloc (.cells #[.int .i64 q.num, .int .i64 q.den] 30)).alloc (.cells #[.int .i64 0, .int .i64 1] 30)).heap[w1.heap.size]? = some (.cells #[.int .i64 q.num, .int .i64 q.den] 30 (0, 0))) := (blk_old (blk_new rfl))
                  have F : Hid (((w1.alloc (.cells #[.int .i64 q.num, .int .i64 q.den] 30)).alloc (.cells #[.int .i64 0, .int .i64 1] 30)).heap[w1.heap.size + 1]? = some (.cells #[.int .i64 0, .int .i64 1] 30 (0, 0))) := (blk_new (by simp))
                  generalize ((w1.alloc (.cells #[.int .i64 q.num, .int .i64 q.den] 30)).alloc (.cells #[.int .i64 0, .int .i64 1] 30)) = w2 at *
                  have z2 := hw2.size
                  have cRT := cellH RT
                  obtain ⟨lRT, lRT1, lRT2⟩ := ltH RT
                  have cF := cellH F
                  obtain ⟨lF, lF1, lF2⟩ := ltH F
                  go_wp2_with (at_builtin; go_must (refine wpList_append_own _ rfl (.tmp 78) (.tmp 82) 61 rfl w.heap.size 67 i0 _ 4 32 Tryd.underlying61 hi jz0 jz1 jz2 rfl (by decide) _ k _ rfl (hown2.alloc _) ⟨w2.heap.size, 0, none⟩ 1 1 [.int .i64 0, .int .i64 1, .int .i64 q.num, .int .i64 q.den] rfl rfl (cells_new _ _ _) (by simp [Value.oneCell']) (by unfold maxLen; omega) (by omega) (by simp; omega) ?_); intro v' w9 hown9 hgrow9 _)
                  go_roundw
                  case rel =>
                    refine ⟨k + 1, out ++ [(0, q)], _, rfl, by omega, by go_num, scaleN_ok hsc.out HX.out HM.out (fromR_zero a HK.out), ?_, ?_, ?_, ?_⟩
                    · show _ = _
                      rw [List.length_append, hlen.out]; rfl
                    · intro p hp
                      rcases List.mem_append.1 hp with hp | hp
                      · exact hgd.out p hp
                      · rw [List.mem_singleton.1 hp]; exact ⟨good_zero, HQ.out⟩
                    · rw [List.flatMap_append]; simpa [encB] using hown9
                    · exact (Below.alloc hw2 (by omega) _).grown hgrow9 (by simp; omega) (fun g hg => (hown2.lt g hg).1)
                  case measure => simp [intOf]; omega
                · have HK := Lib.hid h0k
                  have hk1 : 1 ≤ k := by omega
                  clear h0k
                  obtain ⟨t, ht⟩ : ∃ x, a[k - 1]? = some x := ⟨a[k - 1]'(by omega), List.getElem?_eq_getElem _⟩
                  obtain ⟨b2, off2, rfl, hbB2, hc2⟩ := HA.out.below hw1 (Nat.le_refl _) (k - 1) _ ht
                  have c0 : w1.cell? ⟨b2, off2 + (k - 1), none⟩ = some (.int .i64 t) := by have := hc2 0 _ rfl; simpa using this
                  obtain ⟨t1, t2⟩ := HI.out t (List.mem_of_getElem? ht)
                  have HF := Lib.hid (fromR_some HK.out ht)
                  clear ht hc2
                  have kb1 : b2 < w1.heap.size := by omega
                  have kb2 : b2 < w1.heap.size + 1 := by omega
                  have kb3 : b2 ≠ w1.heap.size := by omega
                  have kb4 : b2 ≠ w1.heap.size + 1 := by omega
                  go_wp2_with fail
                  refine (whole_any t E _ t1 t2 ((HE.out.below (by (repeat' (first | with_reducible exact Below.refl _ _ | with_reducible assumption | with_reducible refine Below.drew ?_ | with_reducible refine below_drewN ?_ _ | with_reducible refine Below.setCell ?_ ?_ _ | with_reducible refine Below.alloc ?_ ?_ _ | omega | (simp; done) | (simp; omega))))).sub (by decide))).mono ?_
                  rintro e w3 ⟨⟨n', d', err, rfl, hr⟩, hb3⟩
                  have hw3 : Below w.heap.size w w3 := stepH (by (repeat' (first | with_reducible exact Below.refl _ _ | with_reducible assumption | with_reducible refine Below.drew ?_ | with_reducible refine below_drewN ?_ _ | with_reducible refine Below.setCell ?_ ?_ _ | with_reducible refine Below.alloc ?_ ?_ _ | omega | (simp; done) | (simp; omega)))) hb3
                  clear c0
                  have hP2 : Below wr.heap.size wr w3 := stepH (by (repeat' (first | with_reducible exact Below.refl _ _ | with_reducible assumption | with_reducible refine Below.drew ?_ | with_reducible refine below_drewN ?_ _ | with_reducible refine Below.setCell ?_ ?_ _ | with_reducible refine Below.alloc ?_ ?_ _ | omega | (simp; done) | (simp; omega)))) hb3
                  have RT := keepH hb3 (g := w1.heap.size) (blk_old (blk_new rfl))
                  have F := keepH hb3 (g := w1.heap.size + 1) (blk_new (by simp))
                  have z3 := hw3.size
                  clear hb3 hw1 z1
                  have cRT := cellH RT
                  obtain ⟨lRT, lRT1, lRT2⟩ := ltH RT
                  have cF := cellH F
                  obtain ⟨lF, lF1, lF2⟩ := ltH F
                  have fzF := frozH F
                  cases hs : makeR t 1
                  · rename_i g
                    rw [hs] at hr
                    obtain ⟨rfl, rfl, rfl⟩ := hr
                    have HT := Lib.hid hs
                    clear hs
                    have hen := fun w => eql_nil (E g) w
                    go_wp2_with fail
                    go_ret2
                    exact ⟨retBs_err (by rw [HS.out]; exact scaleN_stays (scaleN_from hsc.out HX.out HM.out (HF.out.trans HT.out)) (by omega)), by (repeat' (first | with_reducible exact Below.refl _ _ | with_reducible assumption | with_reducible refine Below.drew ?_ | with_reducible refine below_drewN ?_ _ | with_reducible refine Below.setCell ?_ ?_ _ | with_reducible refine Below.alloc ?_ ?_ _ | omega | (simp; done) | (simp; omega)))⟩
                  · rename_i f
                    rw [hs] at hr
                    obtain ⟨rfl, rfl, rfl⟩ := hr
                    have gf := makeR_good hs
                    have HGF := Lib.hid gf
                    have NF := num_le gf
                    have HT := Lib.hid hs
                    clear hs gf
                    have nRT : w1.heap.size ≠ w1.heap.size + 1 := by omega
                    go_upto_region 25 with fail
                    replace RT := setH2o (u := .int .i64 f.num) (v := .int .i64 f.den) RT nRT
                    replace F := setH2 (u := .int .i64 f.num) (v := .int .i64 f.den) F
                    have hw30 : Below w.heap.size w ((w3.setCell ⟨w1.heap.size + 1, 0, none⟩ (.int .i64 f.num)).setCell ⟨w1.heap.size + 1, 1, none⟩ (.int .i64 f.den)) := by (repeat' (first | with_reducible exact Below.refl _ _ | with_reducible assumption | with_reducible refine Below.drew ?_ | with_reducible refine below_drewN ?_ _ | with_reducible refine Below.setCell ?_ ?_ _ | with_reducible refine Below.alloc ?_ ?_ _ | omega | (simp; done) | (simp; omega)))
                    have hP3 : Below wr.heap.size wr ((w3.setCell ⟨w1.heap.size + 1, 0, none⟩ (.int .i64 f.num)).setCell ⟨w1.heap.size + 1, 1, none⟩ (.int .i64 f.den)) := by (repeat' (first | with_reducible exact Below.refl _ _ | with_reducible assumption | with_reducible refine Below.drew ?_ | with_reducible refine below_drewN ?_ _ | with_reducible refine Below.setCell ?_ ?_ _ | with_reducible refine Below.alloc ?_ ?_ _ | omega | (simp; done) | (simp; omega)))
                    have hown2 := own_below hown hP3
                    clear hown hP3
                    clear cRT lRT lRT1 lRT2 cF lF lF1 lF2 fzF
                    generalize ((w3.setCell ⟨w1.heap.size + 1, 0, none⟩ (.int .i64 f.num)).setCell ⟨w1.heap.size + 1, 1, none⟩ (.int .i64 f.den)) = w30 at *
                    have z30 := hw30.size
                    have cRT := cellH RT
                    obtain ⟨lRT, lRT1, lRT2⟩ := ltH RT
                    have cF := cellH F
                    obtain ⟨lF, lF1, lF2⟩ := ltH F
                    have fzF := frozH F
                    go_wp2_with (at_builtin; go_must (refine wpList_append_own _ rfl (.tmp 78) (.tmp 82) 61 rfl w.heap.size 67 i0 _ 4 32 Tryd.underlying61 hi jz0 jz1 jz2 rfl (by decide) _ k _ rfl (hown2.alloc _) ⟨w30.heap.size, 0, none⟩ 1 1 [.int .i64 f.num, .int .i64 f.den, .int .i64 q.num, .int .i64 q.den] rfl rfl (cells_new _ _ _) (by simp [Value.oneCell']) (by unfold maxLen; omega) (by omega) (by simp; omega) ?_); intro v' w9 hown9 hgrow9 _)
                    go_roundw
                    case rel =>
                      refine ⟨k + 1, out ++ [(f, q)], _, rfl, by omega, by go_num, scaleN_ok hsc.out HX.out HM.out (HF.out.trans HT.out), ?_, ?_, ?_, ?_⟩
                      · show _ = _
                        rw [List.length_append, hlen.out]; rfl
                      · intro p hp
                        rcases List.mem_append.1 hp with hp | hp
                        · exact hgd.out p hp
                        · rw [List.mem_singleton.1 hp]; exact ⟨HGF.out, HQ.out⟩
                      · rw [List.flatMap_append]; simpa [encB] using hown9
                      · exact (Below.alloc hw30 (by omega) _).grown hgrow9 (by simp; omega) (fun g hg => (hown2.lt g hg).1)
                    case measure => simp [intOf]; omega
            · obtain rfl : k = b.length := by omega
              go_wp2_with fail
              go_ret2
              exact ⟨retBs_ok (by rw [HS.out]; exact hsc.out) (by unfold Own; rw [hlen.out]; exact hown) hgd.out, hw0⟩

end Go.Proofs.YtcbglkkmblmbnaaDoor
