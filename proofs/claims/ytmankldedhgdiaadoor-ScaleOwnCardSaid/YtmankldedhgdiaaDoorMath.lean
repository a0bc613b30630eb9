/- Plain arithmetic of fractions, without any program: a fraction is a rational within bounds. -/
import Derived.WalkKit
namespace Go.Proofs.YtmankldedhgdiaaDoor
open Go.RowKit

/-- the fractions that can be represented -/
def Good (q : Rat) : Prop := -1000000000000 ≤ q.num ∧ q.num ≤ 1000000000000 ∧ q.den ≤ 1000000
instance (q : Rat) : Decidable (Good q) := inferInstanceAs (Decidable (_ ∧ _ ∧ _))

/-- a fraction as Go holds it -/
def pv (n d : Int) : Value := .agg #[.int .i64 n, .int .i64 d]
def fv (q : Rat) : Value := pv q.num q.den

/-- what Valid tells -/
def validB (n d : Int) : Bool := decide (1 ≤ d ∧ d ≤ 1000000 ∧ -1000000000000 ≤ n ∧ n ≤ 1000000000000 ∧ Int.gcd n d = 1)

theorem validB_good (q : Rat) : validB q.num q.den = decide (Good q) := by
  have h1 := q.den_pos
  have h2 : Int.gcd q.num q.den = 1 := q.reduced
  unfold validB
  rw [decide_eq_decide]
  unfold Good
  constructor
  · rintro ⟨a, b, c, d, _⟩; exact ⟨c, d, by omega⟩
  · rintro ⟨a, b, c⟩; exact ⟨by omega, by omega, a, b, h2⟩

theorem good_of_validB {n d : Int} (h : validB n d = true) : ∃ q : Rat, Good q ∧ n = q.num ∧ d = q.den := by
  unfold validB at h
  simp only [decide_eq_true_eq] at h
  obtain ⟨a, b, c, e, f⟩ := h
  obtain ⟨m, rfl⟩ := Int.eq_ofNat_of_zero_le (show 0 ≤ d by omega)
  refine ⟨⟨n, m, by omega, f⟩, ⟨c, e, ?_⟩, rfl, rfl⟩
  show m ≤ 1000000
  omega

theorem pv_of_validB {n d : Int} (h : validB n d = true) : ∃ q : Rat, Good q ∧ pv n d = fv q := by
  obtain ⟨q, hq, rfl, rfl⟩ := good_of_validB h
  exact ⟨q, hq, rfl⟩

theorem fv_inj {p q : Rat} (h1 : p.num = q.num) (h2 : (p.den : Int) = q.den) : p = q := Rat.ext h1 (by omega)

/-- a number, if it can be represented: else the error ErrRange; errors by their variables' numbers -/
def goodR (q : Rat) : Except Nat Rat := if Good q then .ok q else .error 5

/-- how a number, or an error, comes back: n over d, and the error -/
def ResF (E : Nat → Addr) (r : Except Nat Rat) (n d : Int) (err : Value) : Prop :=
  match r with
  | .ok q => n = q.num ∧ d = q.den ∧ err = .nilIface
  | .error g => n = 0 ∧ d = 0 ∧ err = .iface 122 (.pointer (some (E g)))

/-- a sentinel's variable -/
def Sent (E : Nat → Addr) (g : Nat) (w : World) : Prop :=
  w.cell? ⟨g, 0, none⟩ = some (.iface 122 (.pointer (some (E g)))) ∧ g < w.heap.size ∧ (E g).block < w.heap.size ∧ ∃ c t, w.heap[(E g).block]? = some (.cells c t (0, 0))
theorem Sent.below {E : Nat → Addr} {g : Nat} {w w' : World} (h : Sent E g w) (hb : Below w.heap.size w w') : Sent E g w' := by
  obtain ⟨h1, h2, h3, c, t, h4⟩ := h
  have := hb.size
  exact ⟨(hb.cell h2).trans h1, by omega, by omega, c, t, (hb.block _ h3).trans h4⟩
/-- sentinels, by their variables' numbers: each lies in its variable, and they differ -/
structure Env (L : List Nat) (E : Nat → Addr) (w : World) : Prop where
  sent : ∀ g ∈ L, Sent E g w
  inj : ∀ g ∈ L, ∀ h ∈ L, E g = E h → g = h
theorem Env.below {L : List Nat} {E : Nat → Addr} {w w' : World} (h : Env L E w) (hb : Below w.heap.size w w') : Env L E w' := ⟨fun g hg => (h.sent g hg).below hb, h.inj⟩
theorem Env.cell {L : List Nat} {E : Nat → Addr} {w : World} (h : Env L E w) (g : Nat) (hg : g ∈ L) : w.cell? ⟨g, 0, none⟩ = some (.iface 122 (.pointer (some (E g)))) := (h.sent g hg).1
theorem Env.sub {L L' : List Nat} {E : Nat → Addr} {w : World} (h : Env L E w) (hs : ∀ g ∈ L', g ∈ L) : Env L' E w := ⟨fun g hg => h.sent g (hs g hg), fun g hg k hk e => h.inj g (hs g hg) k (hs k hk) e⟩
/-- the sentinels of frac -/
def LF : List Nat := [5, 4, 3]

theorem lowest_num (num den : Nat) (h : den ≠ 0) : (mkRat num den).num = ((num / Nat.gcd num den : Nat) : Int) := by
  rw [Rat.num_mkRat, if_neg h, Nat.gcd_comm]; simp
theorem lowest_den (num den : Nat) (h : den ≠ 0) : (mkRat num den).den = den / Nat.gcd num den := by
  rw [Rat.den_mkRat, if_neg h, Nat.gcd_comm]; simp

/-- num over den, with a minus or not -/
def signed (minus : Bool) (q : Rat) : Rat := if minus then -q else q

theorem signed_num (minus : Bool) (q : Rat) : (signed minus q).num = if minus then -q.num else q.num := by unfold signed; cases minus <;> simp
theorem signed_den (minus : Bool) (q : Rat) : (signed minus q).den = q.den := by unfold signed; cases minus <;> simp
theorem signed_good (minus : Bool) {q : Rat} {a b : Nat} (hn : q.num = a) (hd : q.den = b) : Good (signed minus q) ↔ a ≤ 1000000000000 ∧ b ≤ 1000000 := by
  unfold Good
  rw [signed_num, signed_den, hn, hd]
  cases minus <;> simp <;> omega
theorem resF_bad {E : Nat → Addr} {q : Rat} (h : ¬ Good q) : ResF E (goodR q) 0 0 (.iface 122 (.pointer (some (E 5)))) := by
  unfold goodR; rw [if_neg h]; exact ⟨rfl, rfl, rfl⟩
theorem resF_good {E : Nat → Addr} {q : Rat} {n d : Int} (h : Good q) (hn : n = q.num) (hd : d = q.den) : ResF E (goodR q) n d .nilIface := by
  unfold goodR; rw [if_pos h]; exact ⟨hn, hd, rfl⟩

/-- what Make answers -/
def makeR (num den : Int) : Except Nat Rat := if den = 0 then .error 4 else goodR (Rat.divInt num den)

theorem divInt_signed (num den : Int) : signed (decide (num < 0) != decide (den < 0)) (mkRat (num.natAbs : Nat) den.natAbs) = Rat.divInt num den := by
  unfold signed
  have e : mkRat (num.natAbs : Nat) den.natAbs = Rat.divInt num.natAbs den.natAbs := (Rat.divInt_ofNat _ _).symm
  rw [e]
  by_cases h1 : num < 0 <;> by_cases h2 : den < 0
  · simp only [h1, h2, decide_true, bne_self_eq_false, if_false, Bool.false_eq_true]
    rw [show ((num.natAbs : Nat) : Int) = -num by omega, show ((den.natAbs : Nat) : Int) = -den by omega, Rat.neg_divInt_neg]
  · simp only [h1, h2, decide_true, decide_false, bne_iff_ne, ne_eq, Bool.true_eq_false, not_false_eq_true, if_true]
    rw [show ((num.natAbs : Nat) : Int) = -num by omega, show ((den.natAbs : Nat) : Int) = den by omega, ← Rat.neg_divInt, Rat.neg_neg]
  · simp only [h1, h2, decide_true, decide_false, bne_iff_ne, ne_eq, Bool.false_eq_true, not_false_eq_true, if_true]
    rw [show ((num.natAbs : Nat) : Int) = num by omega, show ((den.natAbs : Nat) : Int) = -den by omega, Rat.neg_divInt, Rat.divInt_neg']
    rw [Int.neg_neg]
  · simp only [h1, h2, decide_false, bne_self_eq_false, if_false, Bool.false_eq_true]
    rw [show ((num.natAbs : Nat) : Int) = num by omega, show ((den.natAbs : Nat) : Int) = den by omega]

theorem mul_facts {a b c d g h a1 d1 c1 b1 : Nat} (hg : 0 < g) (hh : 0 < h) (eg : Nat.gcd a d = g) (eh : Nat.gcd c b = h) (ea : a = g * a1) (ed : d = g * d1) (ec : c = h * c1) (eb : b = h * b1)
    (cab : Nat.gcd a b = 1) (ccd : Nat.gcd c d = 1) (pb : 0 < b1) (pd : 0 < d1) :
    mkRat ((a * c : Nat) : Int) (b * d) = mkRat ((a1 * c1 : Nat) : Int) (b1 * d1) ∧ (mkRat ((a1 * c1 : Nat) : Int) (b1 * d1)).num = ((a1 * c1 : Nat) : Int) ∧ (mkRat ((a1 * c1 : Nat) : Int) (b1 * d1)).den = b1 * d1 := by
  have k1 : Nat.Coprime a1 d1 := by
    have := Nat.coprime_div_gcd_div_gcd (m := a) (n := d) (by omega)
    rw [eg, ea, ed, Nat.mul_div_cancel_left _ hg, Nat.mul_div_cancel_left _ hg] at this; exact this
  have k2 : Nat.Coprime c1 b1 := by
    have := Nat.coprime_div_gcd_div_gcd (m := c) (n := b) (by omega)
    rw [eh, ec, eb, Nat.mul_div_cancel_left _ hh, Nat.mul_div_cancel_left _ hh] at this; exact this
  have k3 : Nat.Coprime a1 b1 := Nat.Coprime.coprime_dvd_left ⟨g, by rw [ea, Nat.mul_comm]⟩ (Nat.Coprime.coprime_dvd_right ⟨h, by rw [eb, Nat.mul_comm]⟩ cab)
  have k4 : Nat.Coprime c1 d1 := Nat.Coprime.coprime_dvd_left ⟨h, by rw [ec, Nat.mul_comm]⟩ (Nat.Coprime.coprime_dvd_right ⟨g, by rw [ed, Nat.mul_comm]⟩ ccd)
  have k : Nat.Coprime (a1 * c1) (b1 * d1) := Nat.Coprime.mul_right (Nat.Coprime.mul_left k3 k2) (Nat.Coprime.mul_left k1 k4)
  have hp : b1 * d1 ≠ 0 := Nat.mul_ne_zero (by omega) (by omega)
  have e : mkRat ((a1 * c1 : Nat) : Int) (b1 * d1) = ⟨((a1 * c1 : Nat) : Int), b1 * d1, hp, k⟩ := (Rat.mk_eq_mkRat _ _ _ _).symm
  refine ⟨?_, by rw [e], by rw [e]⟩
  have hgh : g * h ≠ 0 := Nat.mul_ne_zero (by omega) (by omega)
  have h1 : ((a * c : Nat) : Int) = ((a1 * c1 : Nat) : Int) * ((g * h : Nat) : Int) := by rw [ea, ec]; push_cast; grind
  have h2 : b * d = b1 * d1 * (g * h) := by rw [eb, ed]; grind
  rw [h1, h2, Rat.mkRat_mul_right hgh]

end Go.Proofs.YtmankldedhgdiaaDoor
