/- The document's Add, Times of scales: walks. -/
import Derived.Test.YtmankldedhgdiaaDoorSoK
import Derived.Test.YtmankldedhgdiaaDoorSoG
import Derived.Deep.RegionHeldLaw
import Derived.Laws.AppendOwnNone
import Derived.Laws.MakeOwn
namespace Go.Proofs.YtmankldedhgdiaaDoor
open Go.RowKit

/-- 'append' at a step of a region that draws its order: onto a slice of the call's own, any source -/
theorem step_append_anyS {P : Program} {ops : Array Oper} {o : Oper} {a : Act} {w : World} {K : Act → World → Prop} {Q : Exit → Act → World → Prop} {E : Prop} (hgd : o.guard = none) (s x : Operand) (t : TypeId)
    (ho : o.op = .call { callee := .builtin .append, args := #[s, x], argTypes := #[t, t] })
    (base : Nat) (e : TypeId) (i : TypeInfo) (z : Value) (size bytes : Nat) (ht : P.underlying t = some (.slice e)) (hi : P.info? e = some i) (hz : i.zero = some z)
    (hsize : i.size = size) (hby : i.bytes = bytes) (hzs : z.cells.size = size) (hsz : 0 < size)
    (v : Value) (n : Nat) (xs : List Value) (hs : a.eval s = v) (hown : w.ownsRow base e size v n xs)
    (A : Option Addr) (m c : Nat) (news : List Value) (hx : a.eval x = .slice A m c) (hl : news.length = m * size) (hnews : ∀ ad, A = some ad → ∀ j u, news[j]? = some u → w.cell? (ad.add j) = some u) (hA : A = none → m = 0 ∧ c = 0) (h1 : ∀ u ∈ news, u.oneCell' = true)
    (h63 : n + m ≤ maxLen) (hbytes : (n + m) * bytes ≤ 140737488355328) (hbase : base ≤ w.heap.size)
    (h : ∀ v' w', w'.ownsRow base e size v' (n + m) (xs ++ news) → w.grownBy w' v.ownBlock → K (a.put o.dst v') w') :
    if Region.wanted o (yielded ops a.tmps) = true then Oper.wp P o a w K Q else E := by
  have hw : Region.wanted o (yielded ops a.tmps) = true := by simp [Region.wanted, hgd]
  rw [if_pos hw]
  cases A with
  | some ad => exact wp_append_own w s x t ho base e i z size bytes ht hi hz hsize hby hzs hsz v n xs hs hown ad m c news hx hl (hnews ad rfl) h1 h63 hbytes hbase fun v' w' h2 h3 _ => h v' w' h2 h3
  | none =>
    obtain ⟨rfl, rfl⟩ := hA rfl
    have hrun := run_append_owned_none (P := P) (w := w) base t o.type e i size ht hi v n xs hown
    obtain rfl : news = [] := List.eq_nil_of_length_eq_zero (by simpa using hl)
    unfold Oper.wp
    simp [execOp, ho, resolve, invoke, builtin, hs, hx, hrun, Result.andThen]
    exact h _ _ (by simpa using hown) ⟨rfl, rfl, rfl, Nat.le_refl _, fun _ _ _ => rfl⟩


def timesR (k : Rat) (gs : List (Rat × Rat)) : List (Rat × Rat) := match timesO (mulO k) (normL gs) with
  | none => []
  | some o => normL o
theorem mulO_zero (k : Rat) : mulO k 0 = some 0 := by unfold mulO; rw [Rat.zero_mul, if_pos good_zero]
theorem isF_one {gs : List (Rat × Rat)} {l : List Rat} (h : IsF gs [] l) (hr : Ris gs) : l = gs.map (·.1) :=
  h.uniq ⟨by rw [List.pairwise_map]; exact hr, fun x => by simp⟩
theorem timesO_len {f : Rat → Option Rat} {s o : List (Rat × Rat)} (h : timesO f s = some o) : o.length = s.length := by
  induction s generalizing o with
  | nil => cases h; rfl
  | cons b s ih =>
    unfold timesO at h
    split at h
    · cases h
    · split at h
      · cases h
      · rename_i o' ho
        cases h
        simp [ih ho]
/-- both say the same of a scale's multiples -/
theorem times_law {k : Rat} {gs : List (Rat × Rat)} {l : List Rat} (h : IsF gs [] l) (hr : Ris gs) (h1 : gs.length ≤ 32) (h0 : 0 < gs.length) : withL (fun a _ => mulO k a) gs [] l = timesR k gs := by
  have e1 : outsL (fun a _ => mulO k a) gs [] l = timesO (mulO k) gs := by
    rw [isF_one h hr]
    exact outs_times [] gs hr []
  have e2 := times_norm gs (mulO_zero k)
  unfold withL timesR
  rw [e1]
  revert e2
  cases hq : timesO (mulO k) gs with
  | none =>
    cases timesO (mulO k) (normL gs) with
    | none => intro _; rfl
    | some o => intro h; cases h
  | some o =>
    have hl : ¬ 32 < (normL o).length := by
      have h2 := timesO_len hq
      have := normL_len o (by omega)
      omega
    cases timesO (mulO k) (normL gs) with
    | none => intro h; cases h
    | some o' =>
      intro h
      simp only [Option.map_some, Option.some.injEq] at h
      show (if 32 < (normL o).length then [] else normL o) = normL o'
      rw [if_neg hl, h]
theorem timesO_on {f : Rat → Option Rat} {l l' o : List (Rat × Rat)} {b : Rat × Rat} {r : Rat} {R : Option (List (Rat × Rat))} (h : R = (timesO f l).map (o ++ ·)) (hl : l = b :: l') (hr : f b.2 = some r) : R = (timesO f l').map ((o ++ [(b.1, r)]) ++ ·) := by
  subst hl
  have e : timesO f (b :: l') = match timesO f l' with | none => none | some o => some ((b.1, r) :: o) := by
    show (match f b.2 with | none => none | some r => _) = _
    rw [hr]; rfl
  rw [h, e]
  cases timesO f l' with
  | none => rfl
  | some o' => simp
theorem timesO_off {f : Rat → Option Rat} {l l' o : List (Rat × Rat)} {b : Rat × Rat} {R : Option (List (Rat × Rat))} (h : R = (timesO f l).map (o ++ ·)) (hl : l = b :: l') (hr : f b.2 = none) : R = none := by
  subst hl
  have e : timesO f (b :: l') = none := by
    show (match f b.2 with | none => none | some r => _) = _
    rw [hr]
  rw [h, e]; rfl
theorem cellFn {w : World} {B g off : Nat} {l : List (Int × Int)} {k : Nat} {p : Int × Int} (h : RowAt encF 2 w B (some ⟨g, off, none⟩) l) (hk : l[k]? = some p) : w.cell? ⟨g, off + k * 2, none⟩ = some (.int .i64 p.1) := by
  obtain ⟨g', off', e, _, hc⟩ := h k p hk
  cases e
  exact hc 0 _ rfl
theorem cellFd {w : World} {B g off : Nat} {l : List (Int × Int)} {k : Nat} {p : Int × Int} (h : RowAt encF 2 w B (some ⟨g, off, none⟩) l) (hk : l[k]? = some p) : w.cell? ⟨g, off + k * 2 + 1, none⟩ = some (.int .i64 p.2) := by
  obtain ⟨g', off', e, _, hc⟩ := h k p hk
  cases e
  exact hc 1 _ rfl
theorem cellB {w : World} {B g off : Nat} {l : List BI} {k j : Nat} {p : BI} {u : Value} (h : RowAt encR 4 w B (some ⟨g, off, none⟩) l) (hk : l[k]? = some p) (hj : (encR p)[j]? = some u) : w.cell? ⟨g, off + k * 4 + j, none⟩ = some u := by
  obtain ⟨g', off', e, _, hc⟩ := h k p hk
  cases e
  exact hc j _ hj
theorem addC {p q : Rat} {n d c : Int} {r : Rat} (h : ResC (goodR (p + q)) n d c) (hr : addO p q = some r) : n = r.num ∧ d = r.den ∧ c = 0 := by
  unfold addO at hr; split at hr
  · rename_i hg; cases hr; exact resC_ok h (by unfold goodR; rw [if_pos hg])
  · cases hr
theorem addN {p q : Rat} {n d c : Int} (h : ResC (goodR (p + q)) n d c) (hr : addO p q = none) : n = 0 ∧ d = 0 ∧ (c = 101 ∨ c = 102 ∨ c = 103) := by
  unfold addO at hr; split at hr
  · cases hr
  · rename_i hg; exact resC_no h (by unfold goodR; rw [if_neg hg])
theorem mulC {p k : Rat} {n d c : Int} {r : Rat} (h : ResC (goodR (p * k)) n d c) (hr : mulO k p = some r) : n = r.num ∧ d = r.den ∧ c = 0 := by
  unfold mulO at hr; split at hr
  · rename_i hg; cases hr; exact resC_ok h (by unfold goodR; rw [if_pos hg])
  · cases hr
theorem mulN {p k : Rat} {n d c : Int} (h : ResC (goodR (p * k)) n d c) (hr : mulO k p = none) : n = 0 ∧ d = 0 ∧ (c = 101 ∨ c = 102 ∨ c = 103) := by
  unfold mulO at hr; split at hr
  · cases hr
  · rename_i hg; exact resC_no h (by unfold goodR; rw [if_neg hg])

set_option maxRecDepth 100000 in
set_option maxHeartbeats 16000000 in
theorem refAdd15_any (gs ts : List (Rat × Rat)) (A B : Option Addr) (c d : Nat) (w : World) (hl : RowAt encR 4 w w.heap.size A (gs.map bR)) (hr : RowAt encR 4 w w.heap.size B (ts.map bR)) (h1 : gs.length ≤ 32) (h2 : ts.length ≤ 32) (hg : ∀ b ∈ gs, GoodB b) (ht : ∀ b ∈ ts, GoodB b) (hs : Ris gs) (hu : Ris ts) :
    Calls Tryd.prog 16 #[.slice A gs.length c, .slice B ts.length d] w fun e w' => (∃ v cd l, e = .returned (.tuple #[v, .int .i64 cd]) ∧ IsF gs ts l ∧ Own encR 4 31 w.heap.size w' v ((withL addO gs ts l).map bR)) ∧ Below w.heap.size w w' := by
  obtain ⟨inf0, hi, jz0, jz1, jz2⟩ := info_parts infoBr
  have HFR := Lib.hid (froms_any gs ts A B c d w hl hr (by omega) (by omega) hg ht hs hu)
  have HL := Lib.hid hl
  have HR := Lib.hid hr
  have HG := Lib.hid hg
  have HT := Lib.hid ht
  have HS := Lib.hid hs
  have HU := Lib.hid hu
  clear hl hr hg ht hs hu
  go_enter Tryd.func16, Tryd.ntmps16
  go_wp2_with fail
  refine HFR.out.mono ?_
  rintro e w1 ⟨⟨v1, l, rfl, hIS, hll, hown⟩, hb1⟩
  have hw1 : Below w.heap.size w w1 := hb1
  have z1 := hw1.size
  have HIS := Lib.hid hIS
  have hl64 : l.length ≤ 64 := by omega
  have HLG : Hid (∀ q ∈ l, Good q) := Lib.hid (fun q hq => by rcases (hIS.2 q).1 hq with h | h <;> obtain ⟨b, hb, rfl⟩ := List.mem_map.1 h; exact (HG.out b hb).1; exact (HT.out b hb).1)
  obtain ⟨A1, c1, rfl, _, _, hrow⟩ := Own.rows (fun x _ => encF_len x) hown
  have HRL := Lib.hid hrow
  replace HL := Lib.hid ((HL.out.below hw1 (Nat.le_refl _)).more z1)
  replace HR := Lib.hid ((HR.out.below hw1 (Nat.le_refl _)).more z1)
  rw [List.length_map] at *
  clear hIS hown hrow hb1 HFR hll
  go_wp2_with fail
  go_loopw [7, 8] (fun v i wr => ∃ (k9 : Nat) (o : List (Rat × Rat)), k9 ≤ l.length ∧ o.length = k9 ∧ i = .int .i64 k9 ∧ Hid (outsL addO gs ts l = (outsL addO gs ts (l.drop k9)).map (o ++ ·)) ∧ Hid (wr.ownsRow w1.heap.size 31 4 v k9 ((o.map bR).flatMap encR)) ∧ Below w1.heap.size w1 wr) (fun _ i _ => l.length - (intOf i).toNat)
  case atStart => exact ⟨0, [], Nat.zero_le _, rfl, rfl, Lib.hid (by simp), World.ownsRow_nil _ _ _ _, Below.refl _ _⟩
  case round =>
    obtain ⟨j9, o, hk, hol, rfl, hou, HO, hw0⟩ := hrel
    have z0 := hw0.size
    by_cases hlt : j9 < l.length
    · have q9 : (j9 : Int) < (l.length : Int) := by omega
      obtain ⟨x, hx⟩ : ∃ x, l[j9]? = some x := ⟨l[j9], List.getElem?_eq_getElem hlt⟩
      have GX := Lib.hid (HLG.out x (List.mem_of_getElem? hx))
      have HXL := Lib.hid (show (l.map fq)[j9]? = some (fq x) by rw [List.getElem?_map, hx]; rfl)
      obtain ⟨g, off, hA2, hgB, hc⟩ := HRL.out j9 (fq x) HXL.out
      subst hA2
      clear hc
      have HD := Lib.hid (drop_cons hx)
      clear hx
      have GA := Lib.hid (rateF_good (x := x) good_zero HG.out)
      have GB := Lib.hid (rateF_good (x := x) good_zero HT.out)
      have HEA := Lib.hid (rate_same (x := x) (r := 0) HS.out)
      have HEB := Lib.hid (rate_same (x := x) (r := 0) HU.out)
      obtain ⟨ra, hra⟩ : ∃ ra, rateF x 0 gs = ra := ⟨_, rfl⟩
      obtain ⟨rb, hrb⟩ : ∃ rb, rateF x 0 ts = rb := ⟨_, rfl⟩
      have HRA := Lib.hid hra
      have HRB := Lib.hid hrb
      rw [hra] at GA HEA
      rw [hrb] at GB HEB
      clear hra hrb
      cases hf : addO ra rb
      · have HF := Lib.hid hf
        clear hf
        have HOU := Lib.hid (outs_off hou.out HD.out (by simp only [HRA.out, HRB.out]; exact HF.out))
        go_upto_region 6 with fail
        go_cut [9, 10] (fun s9 s10 wx => ∃ g : Nat, s9 = .pointer (some ⟨g, 0, none⟩) ∧ (∃ c9 : Int, s10 = .int .i64 c9 ∧ (c9 = 101 ∨ c9 = 102 ∨ c9 = 103)) ∧ Below wr.heap.size wr wx ∧ wr.heap.size ≤ g ∧ Below w1.heap.size w1 wx ∧ Hid (wx.heap[g]? = some (.cells #[.int .i64 0, .int .i64 0] 24 (0, 0))))
        case first =>
          as_aux_lemma =>
            have hw5 := hw0
            have k0 : wr.cell? ⟨g, off + j9 * 2, none⟩ = some (.int .i64 x.num) := cellFn (HRL.out.below hw5 (Nat.le_refl _)) HXL.out
            have k1 : wr.cell? ⟨g, off + j9 * 2 + 1, none⟩ = some (.int .i64 x.den) := cellFd (HRL.out.below hw5 (Nat.le_refl _)) HXL.out
            have tok0 := True.intro
            go_region_held3 (fun w' => w'.cell? ⟨g, off + j9 * 2, none⟩ = some (.int .i64 x.num) ∧ w'.cell? ⟨g, off + j9 * 2 + 1, none⟩ = some (.int .i64 x.den)) (first | with_reducible exact ⟨k0, k1⟩ | with_reducible exact ⟨cell_set (cell_set k0 (by first | assumption | (dsimp only; assumption) | (dsimp only; omega))) (by first | assumption | (dsimp only; assumption) | (dsimp only; omega)), cell_set (cell_set k1 (by first | assumption | (dsimp only; assumption) | (dsimp only; omega))) (by first | assumption | (dsimp only; assumption) | (dsimp only; omega))⟩ | go_keep)
              (first | (have tk := tok0; clear tk; go_at_call 39; refine (rateAt_any gs A c x _ ((HL.out.below (by (repeat' (first | with_reducible exact Below.refl _ _ | with_reducible assumption | with_reducible refine Below.drew ?_ | with_reducible refine below_drewN ?_ _ | with_reducible refine Below.setCell ?_ ?_ _ | with_reducible refine Below.alloc ?_ ?_ _ | omega | (simp; done) | (simp; omega)))) (Nat.le_refl _)).more (by first | omega | (simp; omega))) (by omega) HG.out GX.out).mono ?_; rintro e w5 ⟨rfl, hb5⟩; rw [← HEA.out]; have hw5 : Below w1.heap.size w1 w5 := stepH (by (repeat' (first | with_reducible exact Below.refl _ _ | with_reducible assumption | with_reducible refine Below.drew ?_ | with_reducible refine below_drewN ?_ _ | with_reducible refine Below.setCell ?_ ?_ _ | with_reducible refine Below.alloc ?_ ?_ _ | omega | (simp; done) | (simp; omega)))) hb5; have zw5 := hw5.size; (try (have NB := keepH hb5 (by with_reducible first | exact blk_new rfl | exact drew_old (blk_new rfl) | exact NB.out | exact drew_old NB.out); have cNB := cellH NB; have fNB := frozH NB)); have k0 : w5.cell? ⟨g, off + j9 * 2, none⟩ = some (.int .i64 x.num) := cellFn (HRL.out.below hw5 (Nat.le_refl _)) HXL.out; have k1 : w5.cell? ⟨g, off + j9 * 2 + 1, none⟩ = some (.int .i64 x.den) := cellFd (HRL.out.below hw5 (Nat.le_refl _)) HXL.out; have HP : Below wr.heap.size wr w5 := stepH (by (repeat' (first | with_reducible exact Below.refl _ _ | with_reducible assumption | with_reducible refine Below.drew ?_ | with_reducible refine below_drewN ?_ _ | with_reducible refine Below.setCell ?_ ?_ _ | with_reducible refine Below.alloc ?_ ?_ _ | omega | (simp; done) | (simp; omega)))) hb5; have zP := HP.size; clear tok0; have tok1 := True.intro) | (have tk := tok1; clear tk; go_at_call 39; refine (rateAt_any ts B d x _ ((HR.out.below (by (repeat' (first | with_reducible exact Below.refl _ _ | with_reducible assumption | with_reducible refine Below.drew ?_ | with_reducible refine below_drewN ?_ _ | with_reducible refine Below.setCell ?_ ?_ _ | with_reducible refine Below.alloc ?_ ?_ _ | omega | (simp; done) | (simp; omega)))) (Nat.le_refl _)).more (by first | omega | (simp; omega))) (by omega) HT.out GX.out).mono ?_; rintro e w5 ⟨rfl, hb5⟩; rw [← HEB.out]; have hw5 : Below w1.heap.size w1 w5 := stepH (by (repeat' (first | with_reducible exact Below.refl _ _ | with_reducible assumption | with_reducible refine Below.drew ?_ | with_reducible refine below_drewN ?_ _ | with_reducible refine Below.setCell ?_ ?_ _ | with_reducible refine Below.alloc ?_ ?_ _ | omega | (simp; done) | (simp; omega)))) hb5; have zw5 := hw5.size; (try (have NB := keepH hb5 (by with_reducible first | exact blk_new rfl | exact drew_old (blk_new rfl) | exact NB.out | exact drew_old NB.out); have cNB := cellH NB; have fNB := frozH NB)); have k0 : w5.cell? ⟨g, off + j9 * 2, none⟩ = some (.int .i64 x.num) := cellFn (HRL.out.below hw5 (Nat.le_refl _)) HXL.out; have k1 : w5.cell? ⟨g, off + j9 * 2 + 1, none⟩ = some (.int .i64 x.den) := cellFd (HRL.out.below hw5 (Nat.le_refl _)) HXL.out; have HP : Below wr.heap.size wr w5 := stepH (by (repeat' (first | with_reducible exact Below.refl _ _ | with_reducible assumption | with_reducible refine Below.drew ?_ | with_reducible refine below_drewN ?_ _ | with_reducible refine Below.setCell ?_ ?_ _ | with_reducible refine Below.alloc ?_ ?_ _ | omega | (simp; done) | (simp; omega)))) hb5; have zP := HP.size; clear tok1; have tok2 := True.intro) | (have tk := tok2; clear tk; go_at_call 38; refine (refAdd_any ra rb _ GA.out GB.out).mono ?_; rintro e w5 ⟨⟨n', d', c', rfl, hr⟩, hb5⟩; obtain ⟨rfl, rfl, hc3⟩ := addN hr HF.out; have hw5 : Below w1.heap.size w1 w5 := stepH (by (repeat' (first | with_reducible exact Below.refl _ _ | with_reducible assumption | with_reducible refine Below.drew ?_ | with_reducible refine below_drewN ?_ _ | with_reducible refine Below.setCell ?_ ?_ _ | with_reducible refine Below.alloc ?_ ?_ _ | omega | (simp; done) | (simp; omega)))) hb5; have zw5 := hw5.size; (try (have NB := keepH hb5 (by with_reducible first | exact blk_new rfl | exact drew_old (blk_new rfl) | exact NB.out | exact drew_old NB.out); have cNB := cellH NB; have fNB := frozH NB)); have k0 : w5.cell? ⟨g, off + j9 * 2, none⟩ = some (.int .i64 x.num) := cellFn (HRL.out.below hw5 (Nat.le_refl _)) HXL.out; have k1 : w5.cell? ⟨g, off + j9 * 2 + 1, none⟩ = some (.int .i64 x.den) := cellFd (HRL.out.below hw5 (Nat.le_refl _)) HXL.out; have HP : Below wr.heap.size wr w5 := stepH (by (repeat' (first | with_reducible exact Below.refl _ _ | with_reducible assumption | with_reducible refine Below.drew ?_ | with_reducible refine below_drewN ?_ _ | with_reducible refine Below.setCell ?_ ?_ _ | with_reducible refine Below.alloc ?_ ?_ _ | omega | (simp; done) | (simp; omega)))) hb5; have zP := HP.size; clear tok2; have tok3 := True.intro))
            all_goals go_wp2_with fail
            all_goals go_meet
            all_goals exact ⟨_, rfl, ⟨_, rfl, hc3⟩, (by (repeat' (first | with_reducible exact Below.refl _ _ | with_reducible assumption | with_reducible refine Below.drew ?_ | with_reducible refine below_drewN ?_ _ | with_reducible refine Below.setCell ?_ ?_ _ | with_reducible refine Below.alloc ?_ ?_ _ | omega | (simp; done) | (simp; omega)))), (by first | omega | (simp; omega)), (by (repeat' (first | with_reducible exact Below.refl _ _ | with_reducible assumption | with_reducible refine Below.drew ?_ | with_reducible refine below_drewN ?_ _ | with_reducible refine Below.setCell ?_ ?_ _ | with_reducible refine Below.alloc ?_ ?_ _ | omega | (simp; done) | (simp; omega)))), (by first | with_reducible exact setH2 NB.out | exact blk_new rfl)⟩
        case rest =>
          as_aux_lemma =>
            obtain ⟨gRr, rfl, ⟨c9, rfl, hc9⟩, hst, hgR, hw6, Rr⟩ := hcut
            obtain ⟨w6, rfl⟩ : ∃ x : World, x = wc := ⟨_, rfl⟩
            have z6 := hw6.size
            have cRr := cellH Rr
            obtain ⟨lRr, lRr1, lRr2⟩ := ltH Rr
            have yst := hst.size
            have hcn : (c9 != 0) = true := by rcases hc9 with rfl | rfl | rfl <;> decide
            have HV : ∀ W, Own encR 4 31 w.heap.size W (.slice none 0 0) ((withL addO gs ts l).map bR) := fun W => by rw [show withL addO gs ts l = [] from (by unfold withL; rw [HOU.out])]; exact Own.nil
            clear hc9
            go_wp2_with fail
            go_ret2
            refine ⟨?_, hw1.trans (Below.mono (by (repeat' (first | with_reducible exact Below.refl _ _ | with_reducible assumption | with_reducible refine Below.drew ?_ | with_reducible refine below_drewN ?_ _ | with_reducible refine Below.setCell ?_ ?_ _ | with_reducible refine Below.alloc ?_ ?_ _ | omega | (simp; done) | (simp; omega)))) z1)⟩
            first | exact ⟨_, _, l, rfl, HIS.out, HV _⟩ | exact ⟨_, ⟨_, rfl⟩, l, HIS.out, HV _⟩
      · rename_i r
        have HF := Lib.hid hf
        clear hf
        have HOU := Lib.hid (outs_on hou.out HD.out (by simp only [HRA.out, HRB.out]; exact HF.out))
        go_upto_region 6 with fail
        go_cut [9, 10] (fun s9 s10 wx => ∃ g : Nat, s9 = .pointer (some ⟨g, 0, none⟩) ∧ s10 = .int .i64 0 ∧ Below wr.heap.size wr wx ∧ wr.heap.size ≤ g ∧ Below w1.heap.size w1 wx ∧ Hid (wx.heap[g]? = some (.cells #[.int .i64 r.num, .int .i64 r.den] 24 (0, 0))))
        case first =>
          as_aux_lemma =>
            have hw5 := hw0
            have k0 : wr.cell? ⟨g, off + j9 * 2, none⟩ = some (.int .i64 x.num) := cellFn (HRL.out.below hw5 (Nat.le_refl _)) HXL.out
            have k1 : wr.cell? ⟨g, off + j9 * 2 + 1, none⟩ = some (.int .i64 x.den) := cellFd (HRL.out.below hw5 (Nat.le_refl _)) HXL.out
            have tok0 := True.intro
            go_region_held3 (fun w' => w'.cell? ⟨g, off + j9 * 2, none⟩ = some (.int .i64 x.num) ∧ w'.cell? ⟨g, off + j9 * 2 + 1, none⟩ = some (.int .i64 x.den)) (first | with_reducible exact ⟨k0, k1⟩ | with_reducible exact ⟨cell_set (cell_set k0 (by first | assumption | (dsimp only; assumption) | (dsimp only; omega))) (by first | assumption | (dsimp only; assumption) | (dsimp only; omega)), cell_set (cell_set k1 (by first | assumption | (dsimp only; assumption) | (dsimp only; omega))) (by first | assumption | (dsimp only; assumption) | (dsimp only; omega))⟩ | go_keep)
              (first | (have tk := tok0; clear tk; go_at_call 39; refine (rateAt_any gs A c x _ ((HL.out.below (by (repeat' (first | with_reducible exact Below.refl _ _ | with_reducible assumption | with_reducible refine Below.drew ?_ | with_reducible refine below_drewN ?_ _ | with_reducible refine Below.setCell ?_ ?_ _ | with_reducible refine Below.alloc ?_ ?_ _ | omega | (simp; done) | (simp; omega)))) (Nat.le_refl _)).more (by first | omega | (simp; omega))) (by omega) HG.out GX.out).mono ?_; rintro e w5 ⟨rfl, hb5⟩; rw [← HEA.out]; have hw5 : Below w1.heap.size w1 w5 := stepH (by (repeat' (first | with_reducible exact Below.refl _ _ | with_reducible assumption | with_reducible refine Below.drew ?_ | with_reducible refine below_drewN ?_ _ | with_reducible refine Below.setCell ?_ ?_ _ | with_reducible refine Below.alloc ?_ ?_ _ | omega | (simp; done) | (simp; omega)))) hb5; have zw5 := hw5.size; (try (have NB := keepH hb5 (by with_reducible first | exact blk_new rfl | exact drew_old (blk_new rfl) | exact NB.out | exact drew_old NB.out); have cNB := cellH NB; have fNB := frozH NB)); have k0 : w5.cell? ⟨g, off + j9 * 2, none⟩ = some (.int .i64 x.num) := cellFn (HRL.out.below hw5 (Nat.le_refl _)) HXL.out; have k1 : w5.cell? ⟨g, off + j9 * 2 + 1, none⟩ = some (.int .i64 x.den) := cellFd (HRL.out.below hw5 (Nat.le_refl _)) HXL.out; have HP : Below wr.heap.size wr w5 := stepH (by (repeat' (first | with_reducible exact Below.refl _ _ | with_reducible assumption | with_reducible refine Below.drew ?_ | with_reducible refine below_drewN ?_ _ | with_reducible refine Below.setCell ?_ ?_ _ | with_reducible refine Below.alloc ?_ ?_ _ | omega | (simp; done) | (simp; omega)))) hb5; have zP := HP.size; clear tok0; have tok1 := True.intro) | (have tk := tok1; clear tk; go_at_call 39; refine (rateAt_any ts B d x _ ((HR.out.below (by (repeat' (first | with_reducible exact Below.refl _ _ | with_reducible assumption | with_reducible refine Below.drew ?_ | with_reducible refine below_drewN ?_ _ | with_reducible refine Below.setCell ?_ ?_ _ | with_reducible refine Below.alloc ?_ ?_ _ | omega | (simp; done) | (simp; omega)))) (Nat.le_refl _)).more (by first | omega | (simp; omega))) (by omega) HT.out GX.out).mono ?_; rintro e w5 ⟨rfl, hb5⟩; rw [← HEB.out]; have hw5 : Below w1.heap.size w1 w5 := stepH (by (repeat' (first | with_reducible exact Below.refl _ _ | with_reducible assumption | with_reducible refine Below.drew ?_ | with_reducible refine below_drewN ?_ _ | with_reducible refine Below.setCell ?_ ?_ _ | with_reducible refine Below.alloc ?_ ?_ _ | omega | (simp; done) | (simp; omega)))) hb5; have zw5 := hw5.size; (try (have NB := keepH hb5 (by with_reducible first | exact blk_new rfl | exact drew_old (blk_new rfl) | exact NB.out | exact drew_old NB.out); have cNB := cellH NB; have fNB := frozH NB)); have k0 : w5.cell? ⟨g, off + j9 * 2, none⟩ = some (.int .i64 x.num) := cellFn (HRL.out.below hw5 (Nat.le_refl _)) HXL.out; have k1 : w5.cell? ⟨g, off + j9 * 2 + 1, none⟩ = some (.int .i64 x.den) := cellFd (HRL.out.below hw5 (Nat.le_refl _)) HXL.out; have HP : Below wr.heap.size wr w5 := stepH (by (repeat' (first | with_reducible exact Below.refl _ _ | with_reducible assumption | with_reducible refine Below.drew ?_ | with_reducible refine below_drewN ?_ _ | with_reducible refine Below.setCell ?_ ?_ _ | with_reducible refine Below.alloc ?_ ?_ _ | omega | (simp; done) | (simp; omega)))) hb5; have zP := HP.size; clear tok1; have tok2 := True.intro) | (have tk := tok2; clear tk; go_at_call 38; refine (refAdd_any ra rb _ GA.out GB.out).mono ?_; rintro e w5 ⟨⟨n', d', c', rfl, hr⟩, hb5⟩; obtain ⟨rfl, rfl, rfl⟩ := addC hr HF.out; have hw5 : Below w1.heap.size w1 w5 := stepH (by (repeat' (first | with_reducible exact Below.refl _ _ | with_reducible assumption | with_reducible refine Below.drew ?_ | with_reducible refine below_drewN ?_ _ | with_reducible refine Below.setCell ?_ ?_ _ | with_reducible refine Below.alloc ?_ ?_ _ | omega | (simp; done) | (simp; omega)))) hb5; have zw5 := hw5.size; (try (have NB := keepH hb5 (by with_reducible first | exact blk_new rfl | exact drew_old (blk_new rfl) | exact NB.out | exact drew_old NB.out); have cNB := cellH NB; have fNB := frozH NB)); have k0 : w5.cell? ⟨g, off + j9 * 2, none⟩ = some (.int .i64 x.num) := cellFn (HRL.out.below hw5 (Nat.le_refl _)) HXL.out; have k1 : w5.cell? ⟨g, off + j9 * 2 + 1, none⟩ = some (.int .i64 x.den) := cellFd (HRL.out.below hw5 (Nat.le_refl _)) HXL.out; have HP : Below wr.heap.size wr w5 := stepH (by (repeat' (first | with_reducible exact Below.refl _ _ | with_reducible assumption | with_reducible refine Below.drew ?_ | with_reducible refine below_drewN ?_ _ | with_reducible refine Below.setCell ?_ ?_ _ | with_reducible refine Below.alloc ?_ ?_ _ | omega | (simp; done) | (simp; omega)))) hb5; have zP := HP.size; clear tok2; have tok3 := True.intro))
            all_goals go_wp2_with fail
            all_goals go_meet
            all_goals exact ⟨_, rfl, rfl, (by (repeat' (first | with_reducible exact Below.refl _ _ | with_reducible assumption | with_reducible refine Below.drew ?_ | with_reducible refine below_drewN ?_ _ | with_reducible refine Below.setCell ?_ ?_ _ | with_reducible refine Below.alloc ?_ ?_ _ | omega | (simp; done) | (simp; omega)))), (by first | omega | (simp; omega)), (by (repeat' (first | with_reducible exact Below.refl _ _ | with_reducible assumption | with_reducible refine Below.drew ?_ | with_reducible refine below_drewN ?_ _ | with_reducible refine Below.setCell ?_ ?_ _ | with_reducible refine Below.alloc ?_ ?_ _ | omega | (simp; done) | (simp; omega)))), (by first | with_reducible exact setH2 NB.out | exact blk_new rfl)⟩
        case rest =>
          as_aux_lemma =>
            obtain ⟨gRr, rfl, rfl, hst, hgR, hw6, Rr⟩ := hcut
            obtain ⟨w6, rfl⟩ : ∃ x : World, x = wc := ⟨_, rfl⟩
            have z6 := hw6.size
            have cRr := cellH Rr
            obtain ⟨lRr, lRr1, lRr2⟩ := ltH Rr
            have yst := hst.size
            have HO5 : Hid (World.ownsRow w6 w1.heap.size 31 4 u7 o.length ((o.map bR).flatMap encR)) := by rw [hol]; exact Lib.hid (own_below HO.out hst)
            have k0 := cellFn (HRL.out.below hw6 (Nat.le_refl _)) HXL.out
            have k1 := cellFd (HRL.out.below hw6 (Nat.le_refl _)) HXL.out
            replace k0 : w6.cell? ⟨g, off + j9 * 2, none⟩ = some (.int .i64 x.num) := k0
            replace k1 : w6.cell? ⟨g, off + j9 * 2 + 1, none⟩ = some (.int .i64 x.den) := k1
            have r0 : w6.cell? ⟨gRr, 0, none⟩ = some (.int .i64 r.num) := cellH Rr 0
            have r1 : w6.cell? ⟨gRr, 1, none⟩ = some (.int .i64 r.den) := cellH Rr 1
            have lRr := lt_of_H Rr
            have HNB : Hid (∀ q : Nat, q < w1.heap.size ∨ q = gRr → some q ≠ (u7 : Value).ownBlock) := Lib.hid (fun q hq e => by have h1 := HO.out.lt q e.symm; omega)
            clear HO
            have hw9 := hw6
            have z9 := hw9.size
            go_upto_region 9 with fail
            go_region_held_law (fun w' => w'.cell? ⟨g, off + j9 * 2, none⟩ = some (.int .i64 x.num) ∧ w'.cell? ⟨g, off + j9 * 2 + 1, none⟩ = some (.int .i64 x.den) ∧ w'.cell? ⟨gRr, 0, none⟩ = some (.int .i64 r.num) ∧ w'.cell? ⟨gRr, 1, none⟩ = some (.int .i64 r.den)) (first | with_reducible exact ⟨k0, k1, r0, r1⟩ | go_keep | exact ⟨(World.grownBy.cell_far hgrow9 ⟨g, off + j9 * 2, none⟩ (by simp; omega) (fun e => HNB.out _ (by dsimp only; omega) e)).trans (cell_drew (cell_alloc k0)), (World.grownBy.cell_far hgrow9 ⟨g, off + j9 * 2 + 1, none⟩ (by simp; omega) (fun e => HNB.out _ (by dsimp only; omega) e)).trans (cell_drew (cell_alloc k1)), (World.grownBy.cell_far hgrow9 ⟨gRr, 0, none⟩ (by simp; omega) (fun e => HNB.out _ (by dsimp only; omega) e)).trans (cell_drew (cell_alloc r0)), (World.grownBy.cell_far hgrow9 ⟨gRr, 1, none⟩ (by simp; omega) (fun e => HNB.out _ (by dsimp only; omega) e)).trans (cell_drew (cell_alloc r1))⟩)
              ((refine step_append_anyS (by rfl) (.tmp 39) (.tmp 46) 22 (by rfl) w1.heap.size 31 inf0 _ 4 32 Tryd.underlying22 hi jz0 jz1 jz2 rfl (by decide) _ o.length _ (by rfl) ((HO5.out.alloc _).drew) (some ⟨w6.heap.size, 0, none⟩) 1 1 [.int .i64 x.num, .int .i64 x.den, .int .i64 r.num, .int .i64 r.den] (by rfl) rfl (fun ad ha j u hj => by cases ha; exact cell_drew (World.news_of_block (cs := #[.int .i64 x.num, .int .i64 x.den, .int .i64 r.num, .int .i64 r.den]) (blk_new rfl) j u hj)) (fun h => by cases h) (by simp [Value.oneCell']) (by unfold maxLen; omega) (by omega) (by simp; omega) ?_; intro v' w15 hown9 hgrow9))
            go_wp2_with fail
            go_roundw
            case rel =>
              refine ⟨j9 + 1, o ++ [(x, r)], by omega, by simp; omega, by go_num, HOU, ?_, ?_⟩
              · show World.ownsRow _ _ _ _ _ _ _
                rw [List.map_append, List.flatMap_append]; simpa [encR, bR, hol] using hown9
              · exact Below.grown (by (repeat' (first | with_reducible exact Below.refl _ _ | with_reducible assumption | with_reducible refine Below.drew ?_ | with_reducible refine below_drewN ?_ _ | with_reducible refine Below.setCell ?_ ?_ _ | with_reducible refine Below.alloc ?_ ?_ _ | omega | (simp; done) | (simp; omega)))) hgrow9 (by simp; omega) (fun g hg => (HO5.out.lt g hg).1)
            case measure => simp [intOf]; omega
    · obtain rfl : j9 = l.length := by omega
      have HOS : Hid (outsL addO gs ts l = some o) := by have h := hou.out; rw [List.drop_length] at h; show _ = _; rw [h]; simp [outsL]
      clear hou
      have hO1 : Own encR 4 31 w1.heap.size wr u7 (o.map bR) := by unfold Own; rw [List.length_map, hol]; exact HO.out
      obtain ⟨A6, c6, rfl, _, _, hrow⟩ := Own.rows (fun x _ => encR_len x) hO1
      rw [List.length_map] at *
      have HRO := Lib.hid hrow
      have hob : o.length ≤ 999 := by omega
      clear hO1 hrow HO hol
      go_wp2_with fail
      refine (refNorm_any o A6 c6 _ HRO.out (Nat.le_succ_of_le hob)).mono ?_
      rintro e w6 ⟨⟨v6, rfl, hown⟩, hb6⟩
      have hw6 : Below w1.heap.size w1 w6 := stepH hw0 hb6
      have z6 := hw6.size
      have hW6 : Below w.heap.size w w6 := hw1.trans (hw6.mono z1)
      obtain ⟨A7, c7, rfl, _, _, _⟩ := Own.rows (fun x _ => encR_len x) hown
      have HO7 := Lib.hid (ownsRow_base (c := w.heap.size) hown (by omega))
      rw [List.length_map] at *
      clear hown hb6
      have HWL : Hid (withL addO gs ts l = if 32 < (normL o).length then [] else normL o) := by show _ = _; unfold withL; rw [HOS.out]
      have hnl : Hid (((normL o).map bR).length = (normL o).length) := Lib.hid (List.length_map _)
      have hnb : (normL o).length ≤ 1000 := Nat.le_trans (by unfold normL; split; exact Nat.le_add_left 1 o.length; exact Nat.le_trans (few_len 0 o) (Nat.le_succ _)) (show o.length + 1 ≤ 1000 by omega)
      generalize hN : normL o = N at *
      clear hN
      by_cases h32 : 32 < N.length
      · have HF := Lib.hid (HWL.out.trans (if_pos h32))
        have i32 : (32 : Int) < (N.length : Int) := by omega
        have HV : ∀ _ : Unit, Own encR 4 31 w.heap.size w6 (.slice none 0 0) ((withL addO gs ts l).map bR) := fun _ => by rw [HF.out]; exact Own.nil
        go_wp2_with fail
        go_ret2
        refine ⟨?_, by (repeat' (first | with_reducible exact Below.refl _ _ | with_reducible assumption | with_reducible refine Below.drew ?_ | with_reducible refine below_drewN ?_ _ | with_reducible refine Below.setCell ?_ ?_ _ | with_reducible refine Below.alloc ?_ ?_ _ | omega | (simp; done) | (simp; omega)))⟩
        first | exact ⟨_, _, l, rfl, HIS.out, HV ()⟩ | exact ⟨_, ⟨_, rfl⟩, l, HIS.out, HV ()⟩
      · have HF := Lib.hid (HWL.out.trans (if_neg h32))
        have i32 : ¬ (32 : Int) < (N.length : Int) := by omega
        have HV : ∀ _ : Unit, Own encR 4 31 w.heap.size w6 (.slice A7 N.length c7) ((withL addO gs ts l).map bR) := fun _ => by rw [HF.out]; unfold Own; rw [hnl.out]; exact HO7.out
        go_wp2_with fail
        go_ret2
        refine ⟨?_, by (repeat' (first | with_reducible exact Below.refl _ _ | with_reducible assumption | with_reducible refine Below.drew ?_ | with_reducible refine below_drewN ?_ _ | with_reducible refine Below.setCell ?_ ?_ _ | with_reducible refine Below.alloc ?_ ?_ _ | omega | (simp; done) | (simp; omega)))⟩
        first | exact ⟨_, _, l, rfl, HIS.out, HV ()⟩ | exact ⟨_, ⟨_, rfl⟩, l, HIS.out, HV ()⟩

set_option maxRecDepth 100000 in
set_option maxHeartbeats 16000000 in
theorem refTimes15_any (gs : List (Rat × Rat)) (A : Option Addr) (c : Nat) (k : Rat) (w : World) (hl : RowAt encR 4 w w.heap.size A (gs.map bR)) (h1 : gs.length ≤ 32) (hg : ∀ b ∈ gs, GoodB b) (hk : Good k) :
    Calls Tryd.prog 17 #[.slice A gs.length c, .agg #[.int .i64 k.num, .int .i64 k.den]] w fun e w' => (∃ v cd, e = .returned (.tuple #[v, .int .i64 cd]) ∧ Own encR 4 31 w.heap.size w' v ((timesR k gs).map bR)) ∧ Below w.heap.size w w' := by
  obtain ⟨inf0, hi, jz0, jz1, jz2⟩ := info_parts infoBr
  have HN := Lib.hid (fun w' (h : Below w.heap.size w w') => refNorm_any gs A c w' ((hl.below h (Nat.le_refl _)).more h.size) (by omega))
  have HG := Lib.hid hg
  have HKG := Lib.hid hk
  clear hl hg hk
  go_enter Tryd.func17, Tryd.ntmps17
  go_wp2_with fail
  refine (HN.out _ (by (repeat' (first | with_reducible exact Below.refl _ _ | with_reducible assumption | with_reducible refine Below.drew ?_ | with_reducible refine below_drewN ?_ _ | with_reducible refine Below.setCell ?_ ?_ _ | with_reducible refine Below.alloc ?_ ?_ _ | omega | (simp; done) | (simp; omega))))).mono ?_
  rintro e w1 ⟨⟨v1, rfl, hown⟩, hb1⟩
  have hw1 : Below w.heap.size w w1 := stepH (by (repeat' (first | with_reducible exact Below.refl _ _ | with_reducible assumption | with_reducible refine Below.drew ?_ | with_reducible refine below_drewN ?_ _ | with_reducible refine Below.setCell ?_ ?_ _ | with_reducible refine Below.alloc ?_ ?_ _ | omega | (simp; done) | (simp; omega)))) hb1
  have z1 := hw1.size
  have HKB : Hid (w1.heap[w.heap.size]? = some (.cells #[.int .i64 k.num, .int .i64 k.den] 24 (0, 0))) := keepH hb1 (blk_new rfl)
  have hKlt := lt_of_H HKB
  obtain ⟨A1, c1, rfl, _, _, hrow⟩ := Own.rows (fun x _ => encR_len x) hown
  have HRL := Lib.hid hrow
  rw [List.length_map] at *
  clear hown hrow hb1 HN
  have hl64 : (normL gs).length ≤ 64 := Nat.le_trans (by unfold normL; split; exact Nat.le_add_left 1 gs.length; exact Nat.le_trans (few_len 0 gs) (Nat.le_succ _)) (show gs.length + 1 ≤ 64 by omega)
  have HLG : Hid (∀ b ∈ normL gs, GoodB b) := Lib.hid (fun b hb => by unfold normL at hb; split at hb; (rw [List.mem_singleton.1 hb]; exact ⟨good_zero, good_zero⟩); exact HG.out b (few_mem hb))
  obtain ⟨l, hl⟩ : ∃ l, l = normL gs := ⟨_, rfl⟩
  have HNL := Lib.hid hl
  rw [← hl] at HRL hl64 HLG ⊢
  clear hl
  go_wp2_with fail
  go_loopw [6, 8] (fun v i wr => ∃ (k9 : Nat) (o : List (Rat × Rat)), k9 ≤ l.length ∧ o.length = k9 ∧ i = .int .i64 k9 ∧ Hid (timesO (mulO k) l = (timesO (mulO k) (l.drop k9)).map (o ++ ·)) ∧ Hid (wr.ownsRow w1.heap.size 31 4 v k9 ((o.map bR).flatMap encR)) ∧ Below w1.heap.size w1 wr) (fun _ i _ => l.length - (intOf i).toNat)
  case atStart => exact ⟨0, [], Nat.zero_le _, rfl, rfl, Lib.hid (by simp), World.ownsRow_nil _ _ _ _, Below.refl _ _⟩
  case round =>
    obtain ⟨j9, o, hk, hol, rfl, hou, HO, hw0⟩ := hrel
    have z0 := hw0.size
    by_cases hlt : j9 < l.length
    · have q9 : (j9 : Int) < (l.length : Int) := by omega
      obtain ⟨b, hb⟩ : ∃ b, l[j9]? = some b := ⟨l[j9], List.getElem?_eq_getElem hlt⟩
      have GB := Lib.hid (HLG.out b (List.mem_of_getElem? hb))
      have HXL := Lib.hid (show (l.map bR)[j9]? = some (bR b) by rw [List.getElem?_map, hb]; rfl)
      obtain ⟨g, off, hA2, hgB, hc⟩ := HRL.out j9 (bR b) HXL.out
      subst hA2
      clear hc
      have HD := Lib.hid (drop_cons hb)
      clear hb
      have Kb : Hid (wr.heap[w.heap.size]? = some (.cells #[.int .i64 k.num, .int .i64 k.den] 24 (0, 0))) := Lib.hid ((hw0.block _ hKlt).trans HKB.out)
      cases hf : mulO k b.2
      · have HF := Lib.hid hf
        clear hf
        have HOU := Lib.hid (timesO_off hou.out HD.out HF.out)
        go_upto_region 6 with fail
        go_cut [9, 10] (fun s9 s10 wx => ∃ g : Nat, s9 = .pointer (some ⟨g, 0, none⟩) ∧ (∃ c9 : Int, s10 = .int .i64 c9 ∧ (c9 = 101 ∨ c9 = 102 ∨ c9 = 103)) ∧ Below wr.heap.size wr wx ∧ wr.heap.size ≤ g ∧ Below w1.heap.size w1 wx ∧ Hid (wx.heap[w.heap.size]? = some (.cells #[.int .i64 k.num, .int .i64 k.den] 24 (0, 0))) ∧ Hid (wx.heap[g]? = some (.cells #[.int .i64 0, .int .i64 0] 24 (0, 0))))
        case first =>
          as_aux_lemma =>
            have hw5 := hw0
            have kKb0 : wr.cell? ⟨w.heap.size, 0, none⟩ = some (.int .i64 k.num) := cellH Kb 0
            have kKb1 : wr.cell? ⟨w.heap.size, 1, none⟩ = some (.int .i64 k.den) := cellH Kb 1
            have k0 : wr.cell? ⟨g, off + j9 * 4 + 2, none⟩ = some (.int .i64 b.2.num) := cellB (HRL.out.below hw5 (Nat.le_refl _)) HXL.out (j := 2) rfl
            have k1 : wr.cell? ⟨g, off + j9 * 4 + 3, none⟩ = some (.int .i64 b.2.den) := cellB (HRL.out.below hw5 (Nat.le_refl _)) HXL.out (j := 3) rfl
            have lKb := lt_of_H Kb
            have nKb : w.heap.size ≠ wr.heap.size := Nat.ne_of_lt lKb
            have tok0 := True.intro
            go_region_held3 (fun w' => w'.cell? ⟨w.heap.size, 0, none⟩ = some (.int .i64 k.num) ∧ w'.cell? ⟨w.heap.size, 1, none⟩ = some (.int .i64 k.den) ∧ w'.cell? ⟨g, off + j9 * 4 + 2, none⟩ = some (.int .i64 b.2.num) ∧ w'.cell? ⟨g, off + j9 * 4 + 3, none⟩ = some (.int .i64 b.2.den)) (first | with_reducible exact ⟨kKb0, kKb1, k0, k1⟩ | with_reducible exact ⟨cell_set (cell_set kKb0 (by first | assumption | (dsimp only; assumption) | (dsimp only; omega))) (by first | assumption | (dsimp only; assumption) | (dsimp only; omega)), cell_set (cell_set kKb1 (by first | assumption | (dsimp only; assumption) | (dsimp only; omega))) (by first | assumption | (dsimp only; assumption) | (dsimp only; omega)), cell_set (cell_set k0 (by first | assumption | (dsimp only; assumption) | (dsimp only; omega))) (by first | assumption | (dsimp only; assumption) | (dsimp only; omega)), cell_set (cell_set k1 (by first | assumption | (dsimp only; assumption) | (dsimp only; omega))) (by first | assumption | (dsimp only; assumption) | (dsimp only; omega))⟩ | go_keep)
              (first | (have tk := tok0; clear tk; go_at_call 40; refine (refMul_any b.2 k _ GB.out.2 HKG.out).mono ?_; rintro e w5 ⟨⟨n', d', c', rfl, hr⟩, hb5⟩; obtain ⟨rfl, rfl, hc3⟩ := mulN hr HF.out; have hw5 : Below w1.heap.size w1 w5 := stepH (by (repeat' (first | with_reducible exact Below.refl _ _ | with_reducible assumption | with_reducible refine Below.drew ?_ | with_reducible refine below_drewN ?_ _ | with_reducible refine Below.setCell ?_ ?_ _ | with_reducible refine Below.alloc ?_ ?_ _ | omega | (simp; done) | (simp; omega)))) hb5; have zw5 := hw5.size; (try (have NB := keepH hb5 (by with_reducible first | exact blk_new rfl | exact drew_old (blk_new rfl) | exact NB.out | exact drew_old NB.out); have cNB := cellH NB; have fNB := frozH NB)); replace Kb := keepH hb5 (by first | with_reducible exact Kb.out | with_reducible exact blk_old Kb.out | with_reducible exact drew_old Kb.out | with_reducible exact drew_old (blk_old Kb.out)); have kKb0 : w5.cell? ⟨w.heap.size, 0, none⟩ = some (.int .i64 k.num) := cellH Kb 0; have kKb1 : w5.cell? ⟨w.heap.size, 1, none⟩ = some (.int .i64 k.den) := cellH Kb 1; have k0 : w5.cell? ⟨g, off + j9 * 4 + 2, none⟩ = some (.int .i64 b.2.num) := cellB (HRL.out.below hw5 (Nat.le_refl _)) HXL.out (j := 2) rfl; have k1 : w5.cell? ⟨g, off + j9 * 4 + 3, none⟩ = some (.int .i64 b.2.den) := cellB (HRL.out.below hw5 (Nat.le_refl _)) HXL.out (j := 3) rfl; have lKb := lt_of_H Kb; have nKb : w.heap.size ≠ w5.heap.size := Nat.ne_of_lt lKb; have HP : Below wr.heap.size wr w5 := stepH (by (repeat' (first | with_reducible exact Below.refl _ _ | with_reducible assumption | with_reducible refine Below.drew ?_ | with_reducible refine below_drewN ?_ _ | with_reducible refine Below.setCell ?_ ?_ _ | with_reducible refine Below.alloc ?_ ?_ _ | omega | (simp; done) | (simp; omega)))) hb5; have zP := HP.size; clear tok0; have tok1 := True.intro))
            all_goals go_wp2_with fail
            all_goals go_meet
            all_goals exact ⟨_, rfl, ⟨_, rfl, hc3⟩, (by (repeat' (first | with_reducible exact Below.refl _ _ | with_reducible assumption | with_reducible refine Below.drew ?_ | with_reducible refine below_drewN ?_ _ | with_reducible refine Below.setCell ?_ ?_ _ | with_reducible refine Below.alloc ?_ ?_ _ | omega | (simp; done) | (simp; omega)))), (by first | omega | (simp; omega)), (by (repeat' (first | with_reducible exact Below.refl _ _ | with_reducible assumption | with_reducible refine Below.drew ?_ | with_reducible refine below_drewN ?_ _ | with_reducible refine Below.setCell ?_ ?_ _ | with_reducible refine Below.alloc ?_ ?_ _ | omega | (simp; done) | (simp; omega)))), (by with_reducible first | exact Kb | exact setH2o Kb (by assumption) | exact Lib.hid (blk_old Kb.out)), (by first | with_reducible exact setH2 NB.out | exact blk_new rfl)⟩
        case rest =>
          as_aux_lemma =>
            clear Kb
            obtain ⟨gRr, rfl, ⟨c9, rfl, hc9⟩, hst, hgR, hw6, Kb, Rr⟩ := hcut
            obtain ⟨w6, rfl⟩ : ∃ x : World, x = wc := ⟨_, rfl⟩
            have z6 := hw6.size
            have cKb := cellH Kb
            obtain ⟨lKb, lKb1, lKb2⟩ := ltH Kb
            have cRr := cellH Rr
            obtain ⟨lRr, lRr1, lRr2⟩ := ltH Rr
            have yst := hst.size
            have hcn : (c9 != 0) = true := by rcases hc9 with rfl | rfl | rfl <;> decide
            have HV : ∀ W, Own encR 4 31 w.heap.size W (.slice none 0 0) ((timesR k gs).map bR) := fun W => by rw [show timesR k gs = [] from (by unfold timesR; rw [← HNL.out, HOU.out])]; exact Own.nil
            clear hc9
            go_wp2_with fail
            go_ret2
            refine ⟨?_, hw1.trans (Below.mono (by (repeat' (first | with_reducible exact Below.refl _ _ | with_reducible assumption | with_reducible refine Below.drew ?_ | with_reducible refine below_drewN ?_ _ | with_reducible refine Below.setCell ?_ ?_ _ | with_reducible refine Below.alloc ?_ ?_ _ | omega | (simp; done) | (simp; omega)))) z1)⟩
            first | exact ⟨_, _, rfl, HV _⟩ | exact ⟨_, ⟨_, rfl⟩, HV _⟩
      · rename_i r
        have HF := Lib.hid hf
        clear hf
        have HOU := Lib.hid (timesO_on hou.out HD.out HF.out)
        go_upto_region 6 with fail
        go_cut [9, 10] (fun s9 s10 wx => ∃ g : Nat, s9 = .pointer (some ⟨g, 0, none⟩) ∧ s10 = .int .i64 0 ∧ Below wr.heap.size wr wx ∧ wr.heap.size ≤ g ∧ Below w1.heap.size w1 wx ∧ Hid (wx.heap[w.heap.size]? = some (.cells #[.int .i64 k.num, .int .i64 k.den] 24 (0, 0))) ∧ Hid (wx.heap[g]? = some (.cells #[.int .i64 r.num, .int .i64 r.den] 24 (0, 0))))
        case first =>
          as_aux_lemma =>
            have hw5 := hw0
            have kKb0 : wr.cell? ⟨w.heap.size, 0, none⟩ = some (.int .i64 k.num) := cellH Kb 0
            have kKb1 : wr.cell? ⟨w.heap.size, 1, none⟩ = some (.int .i64 k.den) := cellH Kb 1
            have k0 : wr.cell? ⟨g, off + j9 * 4 + 2, none⟩ = some (.int .i64 b.2.num) := cellB (HRL.out.below hw5 (Nat.le_refl _)) HXL.out (j := 2) rfl
            have k1 : wr.cell? ⟨g, off + j9 * 4 + 3, none⟩ = some (.int .i64 b.2.den) := cellB (HRL.out.below hw5 (Nat.le_refl _)) HXL.out (j := 3) rfl
            have lKb := lt_of_H Kb
            have nKb : w.heap.size ≠ wr.heap.size := Nat.ne_of_lt lKb
            have tok0 := True.intro
            go_region_held3 (fun w' => w'.cell? ⟨w.heap.size, 0, none⟩ = some (.int .i64 k.num) ∧ w'.cell? ⟨w.heap.size, 1, none⟩ = some (.int .i64 k.den) ∧ w'.cell? ⟨g, off + j9 * 4 + 2, none⟩ = some (.int .i64 b.2.num) ∧ w'.cell? ⟨g, off + j9 * 4 + 3, none⟩ = some (.int .i64 b.2.den)) (first | with_reducible exact ⟨kKb0, kKb1, k0, k1⟩ | with_reducible exact ⟨cell_set (cell_set kKb0 (by first | assumption | (dsimp only; assumption) | (dsimp only; omega))) (by first | assumption | (dsimp only; assumption) | (dsimp only; omega)), cell_set (cell_set kKb1 (by first | assumption | (dsimp only; assumption) | (dsimp only; omega))) (by first | assumption | (dsimp only; assumption) | (dsimp only; omega)), cell_set (cell_set k0 (by first | assumption | (dsimp only; assumption) | (dsimp only; omega))) (by first | assumption | (dsimp only; assumption) | (dsimp only; omega)), cell_set (cell_set k1 (by first | assumption | (dsimp only; assumption) | (dsimp only; omega))) (by first | assumption | (dsimp only; assumption) | (dsimp only; omega))⟩ | go_keep)
              (first | (have tk := tok0; clear tk; go_at_call 40; refine (refMul_any b.2 k _ GB.out.2 HKG.out).mono ?_; rintro e w5 ⟨⟨n', d', c', rfl, hr⟩, hb5⟩; obtain ⟨rfl, rfl, rfl⟩ := mulC hr HF.out; have hw5 : Below w1.heap.size w1 w5 := stepH (by (repeat' (first | with_reducible exact Below.refl _ _ | with_reducible assumption | with_reducible refine Below.drew ?_ | with_reducible refine below_drewN ?_ _ | with_reducible refine Below.setCell ?_ ?_ _ | with_reducible refine Below.alloc ?_ ?_ _ | omega | (simp; done) | (simp; omega)))) hb5; have zw5 := hw5.size; (try (have NB := keepH hb5 (by with_reducible first | exact blk_new rfl | exact drew_old (blk_new rfl) | exact NB.out | exact drew_old NB.out); have cNB := cellH NB; have fNB := frozH NB)); replace Kb := keepH hb5 (by first | with_reducible exact Kb.out | with_reducible exact blk_old Kb.out | with_reducible exact drew_old Kb.out | with_reducible exact drew_old (blk_old Kb.out)); have kKb0 : w5.cell? ⟨w.heap.size, 0, none⟩ = some (.int .i64 k.num) := cellH Kb 0; have kKb1 : w5.cell? ⟨w.heap.size, 1, none⟩ = some (.int .i64 k.den) := cellH Kb 1; have k0 : w5.cell? ⟨g, off + j9 * 4 + 2, none⟩ = some (.int .i64 b.2.num) := cellB (HRL.out.below hw5 (Nat.le_refl _)) HXL.out (j := 2) rfl; have k1 : w5.cell? ⟨g, off + j9 * 4 + 3, none⟩ = some (.int .i64 b.2.den) := cellB (HRL.out.below hw5 (Nat.le_refl _)) HXL.out (j := 3) rfl; have lKb := lt_of_H Kb; have nKb : w.heap.size ≠ w5.heap.size := Nat.ne_of_lt lKb; have HP : Below wr.heap.size wr w5 := stepH (by (repeat' (first | with_reducible exact Below.refl _ _ | with_reducible assumption | with_reducible refine Below.drew ?_ | with_reducible refine below_drewN ?_ _ | with_reducible refine Below.setCell ?_ ?_ _ | with_reducible refine Below.alloc ?_ ?_ _ | omega | (simp; done) | (simp; omega)))) hb5; have zP := HP.size; clear tok0; have tok1 := True.intro))
            all_goals go_wp2_with fail
            all_goals go_meet
            all_goals exact ⟨_, rfl, rfl, (by (repeat' (first | with_reducible exact Below.refl _ _ | with_reducible assumption | with_reducible refine Below.drew ?_ | with_reducible refine below_drewN ?_ _ | with_reducible refine Below.setCell ?_ ?_ _ | with_reducible refine Below.alloc ?_ ?_ _ | omega | (simp; done) | (simp; omega)))), (by first | omega | (simp; omega)), (by (repeat' (first | with_reducible exact Below.refl _ _ | with_reducible assumption | with_reducible refine Below.drew ?_ | with_reducible refine below_drewN ?_ _ | with_reducible refine Below.setCell ?_ ?_ _ | with_reducible refine Below.alloc ?_ ?_ _ | omega | (simp; done) | (simp; omega)))), (by with_reducible first | exact Kb | exact setH2o Kb (by assumption) | exact Lib.hid (blk_old Kb.out)), (by first | with_reducible exact setH2 NB.out | exact blk_new rfl)⟩
        case rest =>
          as_aux_lemma =>
            clear Kb
            obtain ⟨gRr, rfl, rfl, hst, hgR, hw6, Kb, Rr⟩ := hcut
            obtain ⟨w6, rfl⟩ : ∃ x : World, x = wc := ⟨_, rfl⟩
            have z6 := hw6.size
            have cKb := cellH Kb
            obtain ⟨lKb, lKb1, lKb2⟩ := ltH Kb
            have cRr := cellH Rr
            obtain ⟨lRr, lRr1, lRr2⟩ := ltH Rr
            have yst := hst.size
            have HO5 : Hid (World.ownsRow w6 w1.heap.size 31 4 u6 o.length ((o.map bR).flatMap encR)) := by rw [hol]; exact Lib.hid (own_below HO.out hst)
            have k0 := cellB (HRL.out.below hw6 (Nat.le_refl _)) HXL.out (j := 0) rfl
            have k1 := cellB (HRL.out.below hw6 (Nat.le_refl _)) HXL.out (j := 1) rfl
            replace k0 : w6.cell? ⟨g, off + j9 * 4, none⟩ = some (.int .i64 b.1.num) := k0
            replace k1 : w6.cell? ⟨g, off + j9 * 4 + 1, none⟩ = some (.int .i64 b.1.den) := k1
            have r0 : w6.cell? ⟨gRr, 0, none⟩ = some (.int .i64 r.num) := cellH Rr 0
            have r1 : w6.cell? ⟨gRr, 1, none⟩ = some (.int .i64 r.den) := cellH Rr 1
            have lRr := lt_of_H Rr
            have HNB : Hid (∀ q : Nat, q < w1.heap.size ∨ q = gRr → some q ≠ (u6 : Value).ownBlock) := Lib.hid (fun q hq e => by have h1 := HO.out.lt q e.symm; omega)
            clear HO
            have hw9 := hw6
            have z9 := hw9.size
            go_upto_region 9 with fail
            go_region_held_law (fun w' => w'.cell? ⟨g, off + j9 * 4, none⟩ = some (.int .i64 b.1.num) ∧ w'.cell? ⟨g, off + j9 * 4 + 1, none⟩ = some (.int .i64 b.1.den) ∧ w'.cell? ⟨gRr, 0, none⟩ = some (.int .i64 r.num) ∧ w'.cell? ⟨gRr, 1, none⟩ = some (.int .i64 r.den)) (first | with_reducible exact ⟨k0, k1, r0, r1⟩ | go_keep | exact ⟨(World.grownBy.cell_far hgrow9 ⟨g, off + j9 * 4, none⟩ (by simp; omega) (fun e => HNB.out _ (by dsimp only; omega) e)).trans (cell_drew (cell_alloc k0)), (World.grownBy.cell_far hgrow9 ⟨g, off + j9 * 4 + 1, none⟩ (by simp; omega) (fun e => HNB.out _ (by dsimp only; omega) e)).trans (cell_drew (cell_alloc k1)), (World.grownBy.cell_far hgrow9 ⟨gRr, 0, none⟩ (by simp; omega) (fun e => HNB.out _ (by dsimp only; omega) e)).trans (cell_drew (cell_alloc r0)), (World.grownBy.cell_far hgrow9 ⟨gRr, 1, none⟩ (by simp; omega) (fun e => HNB.out _ (by dsimp only; omega) e)).trans (cell_drew (cell_alloc r1))⟩)
              ((refine step_append_anyS (by rfl) (.tmp 32) (.tmp 40) 22 (by rfl) w1.heap.size 31 inf0 _ 4 32 Tryd.underlying22 hi jz0 jz1 jz2 rfl (by decide) _ o.length _ (by rfl) ((HO5.out.alloc _).drew) (some ⟨w6.heap.size, 0, none⟩) 1 1 [.int .i64 b.1.num, .int .i64 b.1.den, .int .i64 r.num, .int .i64 r.den] (by rfl) rfl (fun ad ha j u hj => by cases ha; exact cell_drew (World.news_of_block (cs := #[.int .i64 b.1.num, .int .i64 b.1.den, .int .i64 r.num, .int .i64 r.den]) (blk_new rfl) j u hj)) (fun h => by cases h) (by simp [Value.oneCell']) (by unfold maxLen; omega) (by omega) (by simp; omega) ?_; intro v' w15 hown9 hgrow9))
            go_wp2_with fail
            go_roundw
            case rel =>
              refine ⟨j9 + 1, o ++ [(b.1, r)], by omega, by simp; omega, by go_num, HOU, ?_, ?_⟩
              · show World.ownsRow _ _ _ _ _ _ _
                rw [List.map_append, List.flatMap_append]; simpa [encR, bR, hol] using hown9
              · exact Below.grown (by (repeat' (first | with_reducible exact Below.refl _ _ | with_reducible assumption | with_reducible refine Below.drew ?_ | with_reducible refine below_drewN ?_ _ | with_reducible refine Below.setCell ?_ ?_ _ | with_reducible refine Below.alloc ?_ ?_ _ | omega | (simp; done) | (simp; omega)))) hgrow9 (by simp; omega) (fun g hg => (HO5.out.lt g hg).1)
            case measure => simp [intOf]; omega
    · obtain rfl : j9 = l.length := by omega
      have HOS : Hid (timesO (mulO k) l = some o) := by have h := hou.out; rw [List.drop_length] at h; show _ = _; rw [h]; simp [timesO]
      clear hou
      have hO1 : Own encR 4 31 w1.heap.size wr u6 (o.map bR) := by unfold Own; rw [List.length_map, hol]; exact HO.out
      obtain ⟨A6, c6, rfl, _, _, hrow⟩ := Own.rows (fun x _ => encR_len x) hO1
      rw [List.length_map] at *
      have HRO := Lib.hid hrow
      have hob : o.length ≤ 999 := by omega
      clear hO1 hrow HO hol
      go_wp2_with fail
      refine (refNorm_any o A6 c6 _ HRO.out (Nat.le_succ_of_le hob)).mono ?_
      rintro e w6 ⟨⟨v6, rfl, hown⟩, hb6⟩
      have hw6 : Below w1.heap.size w1 w6 := stepH hw0 hb6
      have z6 := hw6.size
      have hW6 : Below w.heap.size w w6 := hw1.trans (hw6.mono z1)
      have HV : ∀ _ : Unit, Own encR 4 31 w.heap.size w6 v6 ((timesR k gs).map bR) := fun _ => by rw [show timesR k gs = normL o from (by unfold timesR; rw [← HNL.out, HOS.out])]; exact ownsRow_base hown (by omega)
      clear hb6
      go_wp2_with fail
      go_ret2
      refine ⟨?_, by (repeat' (first | with_reducible exact Below.refl _ _ | with_reducible assumption | with_reducible refine Below.drew ?_ | with_reducible refine below_drewN ?_ _ | with_reducible refine Below.setCell ?_ ?_ _ | with_reducible refine Below.alloc ?_ ?_ _ | omega | (simp; done) | (simp; omega)))⟩
      first | exact ⟨_, _, rfl, HV ()⟩ | exact ⟨_, ⟨_, rfl⟩, HV ()⟩

end Go.Proofs.YtmankldedhgdiaaDoor
