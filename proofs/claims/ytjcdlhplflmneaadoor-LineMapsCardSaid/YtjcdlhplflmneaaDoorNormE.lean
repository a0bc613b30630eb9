/- Two timelines joined by a function of the law's: walks of known at too many pieces, of that function; plain law. -/
import Derived.Test.YtjcdlhplflmneaaDoorNormC
namespace Go.Proofs.YtjcdlhplflmneaaDoor
open Go.RowKit

set_option maxRecDepth 10000 in
set_option maxHeartbeats 4000000 in
theorem known_many (l : List (Pc Int)) (A : Option Addr) (c : Nat) (w : World) (hm : 200 < l.length) :
    Calls Tryd.prog 32 #[.slice A l.length c] w fun e w' => e = .returned (.tuple #[.slice none 0 0, .bool false]) ∧ Below w.heap.size w w' := by
  have hd : decide ((200 : Int) < (l.length : Int)) = true := decide_eq_true (by omega)
  have h0 : (0 : Int) < (l.length : Int) := by omega
  have h1 : 0 < l.length := by omega
  go_enter Tryd.func32, Tryd.ntmps32
  go_wp2_with fail
  go_loopw [4, 5] (fun u i wr => u = .slice none 0 0 ∧ i = .int .i64 0 ∧ wr = w) (fun _ i _ => 0)
  case atStart => exact ⟨rfl, rfl, rfl⟩
  case round =>
    obtain ⟨rfl, rfl, rfl⟩ := hrel
    go_wp2_with fail
    go_quiet (fail)
    go_wp2_with fail
    go_ret2
    exact ⟨rfl, by (repeat' (first | with_reducible exact Below.refl _ _ | with_reducible assumption | with_reducible refine Below.drew ?_ | with_reducible refine below_drewN ?_ _ | with_reducible refine Below.setCell ?_ ?_ _ | with_reducible refine Below.alloc ?_ ?_ _ | omega | (simp; done) | (simp; omega)))⟩

/-- a number of 64 bits -/
def W6 (x : Int) : Int := wrap64 x
/-- what the law's function says of two values -/
def joinsF (none' : Bool) (x y : Option Int) : Option Int := match x, y with
  | some v, some w => some (W6 (v - w))
  | some v, none => some (W6 (W6 v - 1000000))
  | none, some w => some (W6 (W6 w - 1000000))
  | none, none => if none' then some 7 else none

set_option maxRecDepth 10000 in
theorem joins1_any (none' : Bool) (nb : Nat) (x y : Option Int) (w : World) (hb : Hid (w.heap[nb]? = some (.cells #[.bool none'] 4 (0, 0)))) :
    Calls Tryd.prog 40 (#[.int .i64 (vN x), .bool (vB6 x), .int .i64 (vN y), .bool (vB6 y)] ++ #[.pointer (some ⟨nb, 0, none⟩)]) w fun e w' => joinAns (joinsF none' x y) e ∧ Below w.heap.size w w' := by
  have cB := cellH hb
  cases x with
  | some v =>
    cases y with
    | some u =>
      show Calls Tryd.prog 40 #[.int .i64 v, .bool true, .int .i64 u, .bool true, .pointer (some ⟨nb, 0, none⟩)] w _
      go_enter Tryd.func40, Tryd.ntmps40
      go_wp2_with fail
      go_ret2
      exact ⟨⟨_, rfl, fun v' h => by cases h; simp [W6]⟩, by (repeat' (first | with_reducible exact Below.refl _ _ | with_reducible assumption | with_reducible refine Below.drew ?_ | with_reducible refine below_drewN ?_ _ | with_reducible refine Below.setCell ?_ ?_ _ | with_reducible refine Below.alloc ?_ ?_ _ | omega | (simp; done) | (simp; omega)))⟩
    | none =>
      show Calls Tryd.prog 40 #[.int .i64 v, .bool true, .int .i64 0, .bool false, .pointer (some ⟨nb, 0, none⟩)] w _
      go_enter Tryd.func40, Tryd.ntmps40
      go_wp2_with fail
      go_ret2
      exact ⟨⟨_, rfl, fun v' h => by cases h; simp [W6]⟩, by (repeat' (first | with_reducible exact Below.refl _ _ | with_reducible assumption | with_reducible refine Below.drew ?_ | with_reducible refine below_drewN ?_ _ | with_reducible refine Below.setCell ?_ ?_ _ | with_reducible refine Below.alloc ?_ ?_ _ | omega | (simp; done) | (simp; omega)))⟩
  | none =>
    cases y with
    | some u =>
      show Calls Tryd.prog 40 #[.int .i64 0, .bool false, .int .i64 u, .bool true, .pointer (some ⟨nb, 0, none⟩)] w _
      go_enter Tryd.func40, Tryd.ntmps40
      go_wp2_with fail
      go_ret2
      exact ⟨⟨_, rfl, fun v' h => by cases h; simp [W6]⟩, by (repeat' (first | with_reducible exact Below.refl _ _ | with_reducible assumption | with_reducible refine Below.drew ?_ | with_reducible refine below_drewN ?_ _ | with_reducible refine Below.setCell ?_ ?_ _ | with_reducible refine Below.alloc ?_ ?_ _ | omega | (simp; done) | (simp; omega)))⟩
    | none =>
      show Calls Tryd.prog 40 #[.int .i64 0, .bool false, .int .i64 0, .bool false, .pointer (some ⟨nb, 0, none⟩)] w _
      go_enter Tryd.func40, Tryd.ntmps40
      go_wp2_with fail
      go_quiet (fail)
      go_wp2_with fail
      go_ret2
      exact ⟨⟨7, by cases none' <;> rfl, fun v' h => by cases none' with | true => cases h; rfl | false => cases h⟩, by (repeat' (first | with_reducible exact Below.refl _ _ | with_reducible assumption | with_reducible refine Below.drew ?_ | with_reducible refine below_drewN ?_ _ | with_reducible refine Below.setCell ?_ ?_ _ | with_reducible refine Below.alloc ?_ ?_ _ | omega | (simp; done) | (simp; omega)))⟩

theorem known_no (l : List (Pc Int)) (A : Option Addr) (c : Nat) (w : World) (hl : RowAt encP 3 w w.heap.size A l) (h : ¬ (l.length ≤ 200 ∧ ∀ p ∈ l, ValidP MD p)) :
    Calls Tryd.prog 32 #[.slice A l.length c] w fun e w' => e = .returned (.tuple #[.slice none 0 0, .bool false]) ∧ Below w.heap.size w w' := by
  by_cases hm : l.length ≤ 200
  · refine known_bad l A c w hl hm (Classical.byContradiction fun hb => h ⟨hm, fun p hp => Classical.byContradiction fun hn => hb ⟨p, hp, hn⟩⟩)
  · exact known_many l A c w (by omega)

theorem joins_law {x y want m : List (Pc Int)} {ds : List Int} {F : Option Int → Option Int → Option Int} (hx : Canon MD x) (hy : Canon MD y) (hd : Days ds MD x y) (hw : want = joinP (fun n => F (valL x n) (valL y n)) ds) (hm : Made MD want m) : m = joinedL (joinP (fun n => F (valL x n) (valL y n)) (cutsL x y)) := by
  obtain ⟨h1, h2⟩ := join_spec F (cutsL_days x y) (by decide) hx.rise hy.rise hx.upTo hy.upTo
  obtain ⟨h3, h4⟩ := join_spec F hd (by decide) hx.rise hy.rise hx.upTo hy.upTo
  obtain ⟨r, hr, _⟩ := hd.head (by decide) hx.rise hy.rise
  have hrise : Rise 0 want := by rw [hw, hr]; exact joinP_rise (hr ▸ hd.rise)
  refine hm.canon.ext h1 (fun n => ?_)
  rw [hm.val, hrise.rev, ← joinedL_val hrise, h2, hw, h4]

theorem joins_valid {x y want : List (Pc Int)} {ds : List Int} {F : Option Int → Option Int → Option Int} (hx : Canon MD x) (hy : Canon MD y) (hd : Days ds MD x y) (hw : want = joinP (fun n => F (valL x n) (valL y n)) ds) : ∀ p ∈ want, ValidP MD p := by
  obtain ⟨r, hr, _⟩ := hd.head (by decide) hx.rise hy.rise
  have hrise : Rise 0 want := by rw [hw, hr]; exact joinP_rise (hr ▸ hd.rise)
  have hup : UpTo MD want := by rw [hw]; exact joinP_upTo (fun z hz => (hd.le (by decide) hx.rise hy.rise hx.upTo hy.upTo z hz).2)
  exact fun p hp => ⟨(hrise.mem hp).1, (hrise.mem hp).2, hup p hp⟩

theorem cutsR_days (x y : List (Pc Int)) : Days (cutsR y (cutsR x [0, MD])) MD x y := by
  refine ⟨cutsR_rise (cutsR_rise (by simp; decide)), fun z => ?_⟩
  rw [cutsR_mem, cutsR_mem]
  simp only [List.mem_cons, List.not_mem_nil, or_false]
  constructor
  · rintro (((h | h) | h) | h)
    · exact .inl h
    · exact .inr (.inl h)
    · exact .inr (.inr (.inl h))
    · exact .inr (.inr (.inr h))
  · rintro (h | h | h | h)
    · exact .inl (.inl (.inl h))
    · exact .inl (.inl (.inr h))
    · exact .inl (.inr h)
    · exact .inr h

theorem jc_len {α : Type} [DecidableEq α] (q : Pc α) (r : List (Pc α)) : (jc q r).length ≤ r.length + 1 := by
  induction r generalizing q with
  | nil => exact Nat.le_refl _
  | cons p r ih =>
    rw [jc]
    split
    · have := ih ⟨q.f, p.t, q.v⟩; simp only [List.length_cons]; omega
    · have := ih p; simp only [List.length_cons]; omega
theorem joinedL_len {α : Type} [DecidableEq α] (l : List (Pc α)) : (joinedL l).length ≤ l.length := by
  cases l with
  | nil => exact Nat.le_refl _
  | cons p r => exact jc_len p r
theorem joinP_len {γ : Type} (g : Int → Option γ) (ds : List Int) : (joinP g ds).length ≤ ds.length := by
  induction ds with
  | nil => exact Nat.zero_le _
  | cons a r ih =>
    cases r with
    | nil => exact Nat.zero_le _
    | cons c r =>
      rw [joinP_cons, List.length_append]
      split
      · simp only [List.length_cons, List.length_nil] at ih ⊢; omega
      · simp only [List.length_cons, List.length_nil] at ih ⊢; omega

end Go.Proofs.YtjcdlhplflmneaaDoor
