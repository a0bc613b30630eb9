/- Factor, Chain: walks. -/
import Derived.Test.YtcbglkkmblmbnaaDoorIndexA
namespace Go.Proofs.YtcbglkkmblmbnaaDoor
open Go.RowKit

def factorR (now base : Int) : Except Nat Rat := if now < 0 ∨ base < 0 then .error 1 else makeR now base

theorem factorR_bad {now base : Int} (h : now < 0 ∨ base < 0) : factorR now base = .error 1 := by unfold factorR; rw [if_pos h]

theorem factorR_ok {now base : Int} (h1 : 0 ≤ now) (h2 : 0 ≤ base) : factorR now base = makeR now base := by unfold factorR; rw [if_neg (by omega)]

set_option maxHeartbeats 2000000 in
theorem factor_any (now base : Int) (E : Nat → Addr) (w : World) (h1 : -9223372036854775808 ≤ now) (h2 : now ≤ 9223372036854775807) (h3 : -9223372036854775808 ≤ base) (h4 : base ≤ 9223372036854775807) (hE : Env LI E w) :
    Calls Tryd.prog 31 #[.int .i64 now, .int .i64 base] w fun e w' => (∃ n d err, e = .returned (.tuple #[.agg #[.int .i64 n, .int .i64 d], err]) ∧ ResF E (factorR now base) n d err) ∧ Below w.heap.size w w' := by
  obtain ⟨hc', hltE, _⟩ := hE.sent 1 (by decide)
  have hne : w.heap.size ≠ 1 := by omega
  have hne1 : 1 < w.heap.size + 1 ∧ 1 < w.heap.size + 1 + 1 ∧ 1 < w.heap.size + 1 + 1 + 1 ∧ 1 < w.heap.size + 1 + 1 + 1 + 1 := by omega
  have HE := Lib.hid hE
  clear hE
  have three : now < 0 ∨ (0 ≤ now ∧ base < 0) ∨ (0 ≤ now ∧ 0 ≤ base) := by omega
  rcases three with b1 | ⟨b1, b2⟩ | ⟨b1, b2⟩
  · have HF := Lib.hid (factorR_bad (now := now) (base := base) (by omega))
    go_enter Tryd.func31, Tryd.ntmps31
    go_wp2_with fail
    go_region
    all_goals go_wp2_with fail
    refine bodyPost_ret (v := .tuple #[.agg #[.int .i64 0, .int .i64 0], (.iface 106 (.pointer (some (E 1))))]) (by simp [results, Tryd.results31, go_sem]) rfl ⟨⟨_, _, _, rfl, ?_⟩, by (repeat' (first | with_reducible exact Below.refl _ _ | with_reducible assumption | with_reducible refine Below.drew ?_ | with_reducible refine below_drewN ?_ _ | with_reducible refine Below.setCell ?_ ?_ _ | with_reducible refine Below.alloc ?_ ?_ _ | omega | (simp; done) | (simp; omega)))⟩
    rw [HF.out]
    exact ⟨rfl, rfl, rfl⟩
  · have HF := Lib.hid (factorR_bad (now := now) (base := base) (by omega))
    go_enter Tryd.func31, Tryd.ntmps31
    go_wp2_with fail
    go_region
    all_goals go_wp2_with fail
    refine bodyPost_ret (v := .tuple #[.agg #[.int .i64 0, .int .i64 0], (.iface 106 (.pointer (some (E 1))))]) (by simp [results, Tryd.results31, go_sem]) rfl ⟨⟨_, _, _, rfl, ?_⟩, by (repeat' (first | with_reducible exact Below.refl _ _ | with_reducible assumption | with_reducible refine Below.drew ?_ | with_reducible refine below_drewN ?_ _ | with_reducible refine Below.setCell ?_ ?_ _ | with_reducible refine Below.alloc ?_ ?_ _ | omega | (simp; done) | (simp; omega)))⟩
    rw [HF.out]
    exact ⟨rfl, rfl, rfl⟩
  · have HF := Lib.hid (factorR_ok b1 b2)
    clear hc'
    go_enter Tryd.func31, Tryd.ntmps31
    go_wp2_with fail
    refine (make_any now base E _ (by omega) (by omega) (by omega) (by omega) ((HE.out.below (by (repeat' (first | with_reducible exact Below.refl _ _ | with_reducible assumption | with_reducible refine Below.drew ?_ | with_reducible refine below_drewN ?_ _ | with_reducible refine Below.setCell ?_ ?_ _ | with_reducible refine Below.alloc ?_ ?_ _ | omega | (simp; done) | (simp; omega))))).sub (by decide))).mono ?_
    rintro e w1 ⟨⟨n', d', err, rfl, hr⟩, hb1⟩
    have hw1 : Below w.heap.size w w1 := stepH (by (repeat' (first | with_reducible exact Below.refl _ _ | with_reducible assumption | with_reducible refine Below.drew ?_ | with_reducible refine below_drewN ?_ _ | with_reducible refine Below.setCell ?_ ?_ _ | with_reducible refine Below.alloc ?_ ?_ _ | omega | (simp; done) | (simp; omega)))) hb1
    have R := keepH hb1 (g := w.heap.size) (blk_new rfl)
    have z1 := hw1.size
    clear hb1
    have cR := cellH R
    obtain ⟨lR, lR1, lR2⟩ := ltH R
    have fzR := frozH R
    go_wp2_with fail
    refine bodyPost_ret (v := .tuple #[.agg #[.int .i64 n', .int .i64 d'], err]) (by simp [results, Tryd.results31, go_sem, cR]) rfl ⟨⟨_, _, _, rfl, by rw [HF.out]; exact hr⟩, by (repeat' (first | with_reducible exact Below.refl _ _ | with_reducible assumption | with_reducible refine Below.drew ?_ | with_reducible refine below_drewN ?_ _ | with_reducible refine Below.setCell ?_ ?_ _ | with_reducible refine Below.alloc ?_ ?_ _ | omega | (simp; done) | (simp; omega)))⟩

def chainN (l : List Int) : Nat → Except Nat (List Rat)
  | 0 => .ok []
  | k + 1 => match chainN l k with
    | .error g => .error g
    | .ok fs => match factorR (l.getD (k + 1) 0) (l.getD k 0) with
      | .error g => .error g
      | .ok f => .ok (fs ++ [f])

/-- what Chain answers -/
def chainI (l : List Int) : Except Nat (List Rat) := chainN l (l.length - 1)

theorem getD_of {l : List Int} {k : Nat} {x : Int} (h : l[k]? = some x) : l.getD k 0 = x := by simp [List.getD, h]

theorem chainN_ok {l : List Int} {k : Nat} {a b : Int} {fs : List Rat} {f : Rat} (h : chainN l k = .ok fs) (h1 : l[k + 1]? = some b) (h0 : l[k]? = some a) (hf : factorR b a = .ok f) : chainN l (k + 1) = .ok (fs ++ [f]) := by
  unfold chainN
  rw [h, getD_of h1, getD_of h0, hf]

theorem chainN_err {l : List Int} {k : Nat} {a b : Int} {fs : List Rat} {g : Nat} (h : chainN l k = .ok fs) (h1 : l[k + 1]? = some b) (h0 : l[k]? = some a) (hf : factorR b a = .error g) : chainN l (k + 1) = .error g := by
  unfold chainN
  rw [h, getD_of h1, getD_of h0, hf]

theorem chainN_stays {l : List Int} {k m : Nat} {g : Nat} (h : chainN l k = .error g) (hm : k ≤ m) : chainN l m = .error g := by
  obtain ⟨d, rfl⟩ : ∃ d, m = k + d := ⟨m - k, by omega⟩
  clear hm
  induction d with
  | zero => exact h
  | succ d ih => show chainN l ((k + d) + 1) = _; unfold chainN; rw [ih]

theorem chainI_err {l : List Int} {k : Nat} {a b : Int} {fs : List Rat} {g : Nat} (h : chainN l k = .ok fs) (h1 : l[k + 1]? = some b) (h0 : l[k]? = some a) (hf : factorR b a = .error g) : chainI l = .error g := by
  have hk : k + 1 < l.length := (List.getElem?_eq_some_iff.1 h1).1
  exact chainN_stays (chainN_err h h1 h0 hf) (by omega)

theorem factorR_good {a b : Int} {f : Rat} (h : factorR b a = .ok f) : Good f := by
  unfold factorR makeR goodR at h
  split at h
  · cases h
  · split at h
    · cases h
    · split at h
      · rename_i hg; cases h; exact hg
      · cases h

/-- a list of fractions in new memory, or an error -/
def RetFs (E : Nat → Addr) (base : Nat) (r : Except Nat (List Rat)) (e : Ending) (w' : World) : Prop :=
  match r with
  | .error g => e = .returned (.tuple #[.slice none 0 0, .iface 106 (.pointer (some (E g)))])
  | .ok fs => ∃ v, e = .returned (.tuple #[v, .nilIface]) ∧ Own encF 2 30 base w' v (fs.map fq) ∧ ∀ q ∈ fs, Good q

theorem retFs_err {E : Nat → Addr} {base : Nat} {r : Except Nat (List Rat)} {w' : World} {g : Nat} (h : r = .error g) : RetFs E base r (.returned (.tuple #[.slice none 0 0, .iface 106 (.pointer (some (E g)))])) w' := by subst h; rfl

theorem retFs_ok {E : Nat → Addr} {base : Nat} {r : Except Nat (List Rat)} {w' : World} {v : Value} {fs : List Rat} (h : r = .ok fs) (ho : Own encF 2 30 base w' v (fs.map fq)) (hg : ∀ q ∈ fs, Good q) : RetFs E base r (.returned (.tuple #[v, .nilIface])) w' := by subst h; exact ⟨v, rfl, ho, hg⟩

set_option maxRecDepth 10000 in
set_option maxHeartbeats 8000000 in
theorem chain_any (l : List Int) (A : Option Addr) (c : Nat) (E : Nat → Addr) (w : World) (hn : l.length ≤ 1000000) (hl : RowAt encI 1 w w.heap.size A l) (hI : ∀ x ∈ l, InI x) (hE : Env LI E w) :
    Calls Tryd.prog 30 #[.slice A l.length c] w fun e w' => RetFs E w.heap.size (chainI l) e w' ∧ Below w.heap.size w w' := by
  obtain ⟨i0, hi, jz0, jz1, jz2⟩ := info_parts infoFrac
  have HE := Lib.hid hE
  have HL := Lib.hid hl
  have HI := Lib.hid hI
  clear hE hl hI
  go_enter Tryd.func30, Tryd.ntmps30
  go_wp2_with fail
  go_loopw [4, 5] (fun v i wr => ∃ (k : Nat) (fs : List Rat) (vv : Value), v = vv ∧ (k = 0 ∨ k + 1 ≤ l.length) ∧ i = .int .i64 (k + 1 : Int) ∧ Hid (chainN l k = .ok fs) ∧ Hid (fs.length = k) ∧ Hid (∀ q ∈ fs, Good q) ∧ wr.ownsRow w.heap.size 30 2 vv k ((fs.map fq).flatMap encF) ∧ Below w.heap.size w wr) (fun _ i _ => l.length - (intOf i).toNat)
  case atStart => exact ⟨0, [], _, rfl, .inl rfl, rfl, rfl, rfl, (fun q h => by simp at h), World.ownsRow_nil _ _ _ _, by (repeat' (first | with_reducible exact Below.refl _ _ | with_reducible assumption | with_reducible refine Below.drew ?_ | with_reducible refine below_drewN ?_ _ | with_reducible refine Below.setCell ?_ ?_ _ | with_reducible refine Below.alloc ?_ ?_ _ | omega | (simp; done) | (simp; omega)))⟩
  case round =>
    obtain ⟨k, fs, vv, hvv, hk, rfl, hch, hlen, hg, hown, hw0⟩ := hrel
    have hvv := hvv.symm
    subst hvv
    have hz := hw0.size
    by_cases hlt : k + 1 < l.length
    · obtain ⟨x1, hx1⟩ : ∃ x, l[k + 1]? = some x := ⟨l[k + 1], List.getElem?_eq_getElem hlt⟩
      obtain ⟨x0, hx0⟩ : ∃ x, l[k]? = some x := ⟨l[k], List.getElem?_eq_getElem (by omega)⟩
      obtain ⟨b, off, rfl, hbB, hcell1⟩ := HL.out _ _ hx1
      obtain ⟨b', off', hbo, _, hcell0⟩ := HL.out _ _ hx0
      injection hbo with hbo
      injection hbo with hbo1 hbo2
      subst hbo1 hbo2
      have hc1 : w.cell? ⟨b, off + (k + 1), none⟩ = some (.int .i64 x1) := by have := hcell1 0 _ rfl; simpa using this
      have HC1 := Lib.hid hc1
      have hc0 : w.cell? ⟨b, off + k, none⟩ = some (.int .i64 x0) := by have := hcell0 0 _ rfl; simpa using this
      have HC0 := Lib.hid hc0
      obtain ⟨i1a, i1b⟩ := HI.out _ (List.mem_of_getElem? hx1)
      obtain ⟨i0a, i0b⟩ := HI.out _ (List.mem_of_getElem? hx0)
      have HX1 := Lib.hid hx1
      have HX0 := Lib.hid hx0
      clear hx1 hx0 hcell1 hcell0 hc1 hc0
      cases hf : factorR x1 x0
      · rename_i ge
        have HF := Lib.hid hf
        clear hf
        go_upto_region 5 with fail
        go_cut [6, 7] (fun s6 s7 wx => ∃ g : Nat, s6 = .pointer (some ⟨g, 0, none⟩) ∧ s7 = .iface 106 (.pointer (some (E ge))) ∧ Below w.heap.size w wx ∧ Hid (wx.heap[g]? = some (.cells #[.int .i64 0, .int .i64 0] 30 (0, 0))))
        case first =>
          as_aux_lemma =>
            have hw1 := hw0
            have kx1 : wr.cell? ⟨b, off + (k + 1), none⟩ = some (.int .i64 x1) := (hw1.cell (p := ⟨b, _, none⟩) hbB).trans HC1.out
            have kx0 : wr.cell? ⟨b, off + k, none⟩ = some (.int .i64 x0) := (hw1.cell (p := ⟨b, _, none⟩) hbB).trans HC0.out
            have s3 : (0 : Int) ≤ (k : Int) + 1 := by omega
            have s4 : (k : Int) + 1 < (l.length : Int) := by omega
            have s5 : ((k : Int) + 1).toNat = k + 1 := by omega
            have s6 : (k : Int) < (l.length : Int) := by omega
            have s2 : IntKind.i64.wrap ((k : Int)) = (k : Int) := IntWalk.i64_in _ (by omega)
            have s1 : IntKind.i64.wrap ((k : Int) + 1 - 1) = (k : Int) := by rw [show (k : Int) + 1 - 1 = k by omega]; exact s2
            go_region_held3 (fun w' => w'.cell? ⟨b, off + (k + 1), none⟩ = some (.int .i64 x1) ∧ w'.cell? ⟨b, off + k, none⟩ = some (.int .i64 x0)) (first | with_reducible exact ⟨kx1, kx0⟩ | with_reducible exact ⟨cell_set (cell_set kx1 (by first | assumption | (dsimp only; assumption) | (dsimp only; omega))) (by first | assumption | (dsimp only; assumption) | (dsimp only; omega)), cell_set (cell_set kx0 (by first | assumption | (dsimp only; assumption) | (dsimp only; omega))) (by first | assumption | (dsimp only; assumption) | (dsimp only; omega))⟩ | go_keep)
              (first | (go_at_call 31; refine (factor_any x1 x0 E _ i1a i1b i0a i0b (HE.out.below (by (repeat' (first | with_reducible exact Below.refl _ _ | with_reducible assumption | with_reducible refine Below.drew ?_ | with_reducible refine below_drewN ?_ _ | with_reducible refine Below.setCell ?_ ?_ _ | with_reducible refine Below.alloc ?_ ?_ _ | omega | (simp; done) | (simp; omega)))))).mono ?_; rintro e w1 ⟨⟨n', d', err, rfl, hr⟩, hb1⟩; rw [HF.out] at hr; obtain ⟨rfl, rfl, rfl⟩ := hr; have hw1 : Below w.heap.size w w1 := stepH (by (repeat' (first | with_reducible exact Below.refl _ _ | with_reducible assumption | with_reducible refine Below.drew ?_ | with_reducible refine below_drewN ?_ _ | with_reducible refine Below.setCell ?_ ?_ _ | with_reducible refine Below.alloc ?_ ?_ _ | omega | (simp; done) | (simp; omega)))) hb1; have zw1 := hw1.size; (try (have NB := keepH hb1 (by with_reducible first | exact blk_new rfl | exact drew_old (blk_new rfl) | exact NB.out | exact drew_old NB.out); have cNB := cellH NB; have fNB := frozH NB)); have kx1 : w1.cell? ⟨b, off + (k + 1), none⟩ = some (.int .i64 x1) := (hw1.cell (p := ⟨b, _, none⟩) hbB).trans HC1.out; have kx0 : w1.cell? ⟨b, off + k, none⟩ = some (.int .i64 x0) := (hw1.cell (p := ⟨b, _, none⟩) hbB).trans HC0.out))
            all_goals go_wp2_with fail
            all_goals go_meet
            all_goals exact ⟨_, rfl, rfl, (by (repeat' (first | with_reducible exact Below.refl _ _ | with_reducible assumption | with_reducible refine Below.drew ?_ | with_reducible refine below_drewN ?_ _ | with_reducible refine Below.setCell ?_ ?_ _ | with_reducible refine Below.alloc ?_ ?_ _ | omega | (simp; done) | (simp; omega)))), (by first | with_reducible exact setH2 NB.out | exact blk_new rfl)⟩
        case rest =>
          as_aux_lemma =>
            obtain ⟨gF, rfl, rfl, hw2, F⟩ := hcut
            obtain ⟨w2, rfl⟩ : ∃ x : World, x = wc := ⟨_, rfl⟩
            have z2 := hw2.size
            have cF := cellH F
            obtain ⟨lF, lF1, lF2⟩ := ltH F
            have hen := fun w => eql_nil (E ge) w
            go_wp2_with fail
            go_ret2
            exact ⟨retFs_err (chainI_err hch.out HX1.out HX0.out HF.out), by (repeat' (first | with_reducible exact Below.refl _ _ | with_reducible assumption | with_reducible refine Below.drew ?_ | with_reducible refine below_drewN ?_ _ | with_reducible refine Below.setCell ?_ ?_ _ | with_reducible refine Below.alloc ?_ ?_ _ | omega | (simp; done) | (simp; omega)))⟩
      · rename_i q
        have HF := Lib.hid hf
        have gq := factorR_good hf
        have GQ := Lib.hid gq
        clear hf gq
        go_upto_region 5 with fail
        go_cut [6, 7] (fun s6 s7 wx => ∃ g : Nat, s6 = .pointer (some ⟨g, 0, none⟩) ∧ s7 = .nilIface ∧ wx.ownsRow w.heap.size 30 2 vv k ((fs.map fq).flatMap encF) ∧ Below w.heap.size w wx ∧ Hid (wx.heap[g]? = some (.cells #[.int .i64 q.num, .int .i64 q.den] 30 (0, 0))))
        case first =>
          as_aux_lemma =>
            have hw3 := hw0
            have kx1 : wr.cell? ⟨b, off + (k + 1), none⟩ = some (.int .i64 x1) := (hw3.cell (p := ⟨b, _, none⟩) hbB).trans HC1.out
            have kx0 : wr.cell? ⟨b, off + k, none⟩ = some (.int .i64 x0) := (hw3.cell (p := ⟨b, _, none⟩) hbB).trans HC0.out
            have s3 : (0 : Int) ≤ (k : Int) + 1 := by omega
            have s4 : (k : Int) + 1 < (l.length : Int) := by omega
            have s5 : ((k : Int) + 1).toNat = k + 1 := by omega
            have s6 : (k : Int) < (l.length : Int) := by omega
            have s2 : IntKind.i64.wrap ((k : Int)) = (k : Int) := IntWalk.i64_in _ (by omega)
            have s1 : IntKind.i64.wrap ((k : Int) + 1 - 1) = (k : Int) := by rw [show (k : Int) + 1 - 1 = k by omega]; exact s2
            go_region_held3 (fun w' => w'.cell? ⟨b, off + (k + 1), none⟩ = some (.int .i64 x1) ∧ w'.cell? ⟨b, off + k, none⟩ = some (.int .i64 x0)) (first | with_reducible exact ⟨kx1, kx0⟩ | with_reducible exact ⟨cell_set (cell_set kx1 (by first | assumption | (dsimp only; assumption) | (dsimp only; omega))) (by first | assumption | (dsimp only; assumption) | (dsimp only; omega)), cell_set (cell_set kx0 (by first | assumption | (dsimp only; assumption) | (dsimp only; omega))) (by first | assumption | (dsimp only; assumption) | (dsimp only; omega))⟩ | go_keep)
              (first | (go_at_call 31; refine (factor_any x1 x0 E _ i1a i1b i0a i0b (HE.out.below (by (repeat' (first | with_reducible exact Below.refl _ _ | with_reducible assumption | with_reducible refine Below.drew ?_ | with_reducible refine below_drewN ?_ _ | with_reducible refine Below.setCell ?_ ?_ _ | with_reducible refine Below.alloc ?_ ?_ _ | omega | (simp; done) | (simp; omega)))))).mono ?_; rintro e w3 ⟨⟨n', d', err, rfl, hr⟩, hb3⟩; rw [HF.out] at hr; obtain ⟨rfl, rfl, rfl⟩ := hr; have hw3 : Below w.heap.size w w3 := stepH (by (repeat' (first | with_reducible exact Below.refl _ _ | with_reducible assumption | with_reducible refine Below.drew ?_ | with_reducible refine below_drewN ?_ _ | with_reducible refine Below.setCell ?_ ?_ _ | with_reducible refine Below.alloc ?_ ?_ _ | omega | (simp; done) | (simp; omega)))) hb3; have zw3 := hw3.size; (try (have NB := keepH hb3 (by with_reducible first | exact blk_new rfl | exact drew_old (blk_new rfl) | exact NB.out | exact drew_old NB.out); have cNB := cellH NB; have fNB := frozH NB)); have kx1 : w3.cell? ⟨b, off + (k + 1), none⟩ = some (.int .i64 x1) := (hw3.cell (p := ⟨b, _, none⟩) hbB).trans HC1.out; have kx0 : w3.cell? ⟨b, off + k, none⟩ = some (.int .i64 x0) := (hw3.cell (p := ⟨b, _, none⟩) hbB).trans HC0.out; have HP : Below wr.heap.size wr w3 := stepH (by (repeat' (first | with_reducible exact Below.refl _ _ | with_reducible assumption | with_reducible refine Below.drew ?_ | with_reducible refine below_drewN ?_ _ | with_reducible refine Below.setCell ?_ ?_ _ | with_reducible refine Below.alloc ?_ ?_ _ | omega | (simp; done) | (simp; omega)))) hb3; have zP := HP.size))
            all_goals go_wp2_with fail
            all_goals go_meet
            all_goals exact ⟨_, rfl, rfl, own_below hown (by (repeat' (first | with_reducible exact Below.refl _ _ | with_reducible assumption | with_reducible refine Below.drew ?_ | with_reducible refine below_drewN ?_ _ | with_reducible refine Below.setCell ?_ ?_ _ | with_reducible refine Below.alloc ?_ ?_ _ | omega | (simp; done) | (simp; omega)))), (by (repeat' (first | with_reducible exact Below.refl _ _ | with_reducible assumption | with_reducible refine Below.drew ?_ | with_reducible refine below_drewN ?_ _ | with_reducible refine Below.setCell ?_ ?_ _ | with_reducible refine Below.alloc ?_ ?_ _ | omega | (simp; done) | (simp; omega)))), (by first | with_reducible exact setH2 NB.out | exact blk_new rfl)⟩
        case rest =>
          as_aux_lemma =>
            obtain ⟨gF, rfl, rfl, hown2, hw4, F⟩ := hcut
            obtain ⟨w4, rfl⟩ : ∃ x : World, x = wc := ⟨_, rfl⟩
            have z4 := hw4.size
            have cF := cellH F
            obtain ⟨lF, lF1, lF2⟩ := ltH F
            have hgF := lt_of_H F
            go_wp2_with (at_builtin; go_must (refine wpList_append_own _ rfl (.tmp 30) (.tmp 32) 45 rfl w.heap.size 30 i0 _ 2 16 Tryd.underlying45 hi jz0 jz1 jz2 rfl (by decide) _ k _ rfl (hown2.alloc _) ⟨w4.heap.size, 0, none⟩ 1 1 [.int .i64 q.num, .int .i64 q.den] rfl rfl (cell_two_new _ _ _ _) (by simp [Value.oneCell']) (by unfold maxLen; omega) (by omega) (by simp; omega) ?_); intro v' w9 hown9 hgrow9 _)
            go_roundw
            case rel =>
              refine ⟨k + 1, fs ++ [q], _, rfl, by omega, by go_num, chainN_ok hch.out HX1.out HX0.out HF.out, ?_, ?_, ?_, ?_⟩
              · show _ = _
                rw [List.length_append, hlen.out]; rfl
              · intro p hp
                rcases List.mem_append.1 hp with hp | hp
                · exact hg.out p hp
                · rw [List.mem_singleton.1 hp]; exact GQ.out
              · rw [List.map_append, List.flatMap_append]; simpa [encF, fq] using hown9
              · exact (Below.alloc hw4 (by omega) _).grown hgrow9 (by simp; omega) (fun g hg => (hown2.lt g hg).1)
            case measure => simp [intOf]; omega
    · have hkl : k = l.length - 1 := by omega
      have HC : Hid (chainI l = .ok fs) := by show chainN l (l.length - 1) = _; rw [← hkl]; exact hch.out
      clear hkl
      go_wp2_with fail
      go_ret2
      exact ⟨retFs_ok HC.out (by unfold Own; rw [List.length_map, hlen.out]; exact hown) hg.out, hw0⟩

end Go.Proofs.YtcbglkkmblmbnaaDoor
