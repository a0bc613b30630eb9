/- LineJoins: the ways that turn away: walks. -/
import Derived.Test.YtjcdlhplflmneaaDoorNormE
namespace Go.Proofs.YtjcdlhplflmneaaDoor
open Go.RowKit

def GoodL (l : List (Pc Int)) : Prop := l.length ≤ 200 ∧ ∀ p ∈ l, ValidP MD p

set_option maxRecDepth 100000 in
set_option maxHeartbeats 16000000 in
theorem joins_badL (l k : List (Pc Int)) (A B : Option Addr) (c d : Nat) (nn : Bool) (n : Int) (w : World) (hl : RowAt encP 3 w w.heap.size A l) (hk : RowAt encP 3 w w.heap.size B k) (hm : l.length ≤ 9223372036854775807) (hm2 : k.length ≤ 9223372036854775807) (hb : ¬ GoodL l) :
    Calls Tryd.prog 6 #[.slice A l.length c, .slice B k.length d, .bool nn, .int .i64 n] w fun e w' => e = .returned (.bool true) ∧ Below w.heap.size w w' := by
  have HL := Lib.hid hl
  have HK := Lib.hid hk
  clear hl hk
  go_enter Tryd.func6, Tryd.ntmps6
  go_wp2_with fail
  refine (first6_any _).mono ?_
  rintro e w1 ⟨rfl, hb1⟩
  have hw1 : Below w.heap.size w w1 := stepH (by (repeat' (first | with_reducible exact Below.refl _ _ | with_reducible assumption | with_reducible refine Below.drew ?_ | with_reducible refine below_drewN ?_ _ | with_reducible refine Below.setCell ?_ ?_ _ | with_reducible refine Below.alloc ?_ ?_ _ | omega | (simp; done) | (simp; omega)))) hb1
  clear hb1
  go_wp2_with fail
  refine (known_no l A c _ ((HL.out.below hw1 (Nat.le_refl _)).more hw1.size) hb).mono ?_
  rintro e w2 ⟨rfl, hb2⟩
  have hw2 : Below w.heap.size w w2 := stepH (by (repeat' (first | with_reducible exact Below.refl _ _ | with_reducible assumption | with_reducible refine Below.drew ?_ | with_reducible refine below_drewN ?_ _ | with_reducible refine Below.setCell ?_ ?_ _ | with_reducible refine Below.alloc ?_ ?_ _ | omega | (simp; done) | (simp; omega)))) hb2
  clear hb2 hw1
  by_cases hg : GoodL k
  · go_wp2_with fail
    refine (known_ok k B d _ ((HK.out.below hw2 (Nat.le_refl _)).more hw2.size) hg.1 hg.2).mono ?_
    rintro e w3 ⟨⟨A3, c3, r, rfl, hrow3, _⟩, hb3⟩
    have hw3 : Below w.heap.size w w3 := stepH (by (repeat' (first | with_reducible exact Below.refl _ _ | with_reducible assumption | with_reducible refine Below.drew ?_ | with_reducible refine below_drewN ?_ _ | with_reducible refine Below.setCell ?_ ?_ _ | with_reducible refine Below.alloc ?_ ?_ _ | omega | (simp; done) | (simp; omega)))) hb3
    clear hb3 hw2 hrow3
    go_wp2_with fail
    all_goals (try go_wp2_with fail)
    all_goals go_ret
    all_goals exact ⟨rfl, hw3⟩
  · go_wp2_with fail
    refine (known_no k B d _ ((HK.out.below hw2 (Nat.le_refl _)).more hw2.size) hg).mono ?_
    rintro e w3 ⟨rfl, hb3⟩
    have hw3 : Below w.heap.size w w3 := stepH (by (repeat' (first | with_reducible exact Below.refl _ _ | with_reducible assumption | with_reducible refine Below.drew ?_ | with_reducible refine below_drewN ?_ _ | with_reducible refine Below.setCell ?_ ?_ _ | with_reducible refine Below.alloc ?_ ?_ _ | omega | (simp; done) | (simp; omega)))) hb3
    clear hb3 hw2
    go_wp2_with fail
    all_goals (try go_wp2_with fail)
    all_goals go_ret
    all_goals exact ⟨rfl, hw3⟩

set_option maxRecDepth 100000 in
set_option maxHeartbeats 16000000 in
theorem joins_badK (l k : List (Pc Int)) (A B : Option Addr) (c d : Nat) (nn : Bool) (n : Int) (w : World) (hl : RowAt encP 3 w w.heap.size A l) (hk : RowAt encP 3 w w.heap.size B k) (hm2 : k.length ≤ 9223372036854775807) (hg : GoodL l) (hb : ¬ GoodL k) :
    Calls Tryd.prog 6 #[.slice A l.length c, .slice B k.length d, .bool nn, .int .i64 n] w fun e w' => e = .returned (.bool true) ∧ Below w.heap.size w w' := by
  have HL := Lib.hid hl
  have HK := Lib.hid hk
  have h1 := hg.1
  have hd : decide ((200 : Int) < (l.length : Int)) = false := decide_eq_false (by omega)
  clear hl hk
  go_enter Tryd.func6, Tryd.ntmps6
  go_wp2_with fail
  refine (first6_any _).mono ?_
  rintro e w1 ⟨rfl, hb1⟩
  have hw1 : Below w.heap.size w w1 := stepH (by (repeat' (first | with_reducible exact Below.refl _ _ | with_reducible assumption | with_reducible refine Below.drew ?_ | with_reducible refine below_drewN ?_ _ | with_reducible refine Below.setCell ?_ ?_ _ | with_reducible refine Below.alloc ?_ ?_ _ | omega | (simp; done) | (simp; omega)))) hb1
  clear hb1
  go_wp2_with fail
  refine (known_ok l A c _ ((HL.out.below hw1 (Nat.le_refl _)).more hw1.size) hg.1 hg.2).mono ?_
  rintro e w2 ⟨⟨A3, c3, r, rfl, hrow3, _⟩, hb2⟩
  have hw2 : Below w.heap.size w w2 := stepH (by (repeat' (first | with_reducible exact Below.refl _ _ | with_reducible assumption | with_reducible refine Below.drew ?_ | with_reducible refine below_drewN ?_ _ | with_reducible refine Below.setCell ?_ ?_ _ | with_reducible refine Below.alloc ?_ ?_ _ | omega | (simp; done) | (simp; omega)))) hb2
  clear hb2 hw1 hrow3
  go_wp2_with fail
  refine (known_no k B d _ ((HK.out.below hw2 (Nat.le_refl _)).more hw2.size) hb).mono ?_
  rintro e w3 ⟨rfl, hb3⟩
  have hw3 : Below w.heap.size w w3 := stepH (by (repeat' (first | with_reducible exact Below.refl _ _ | with_reducible assumption | with_reducible refine Below.drew ?_ | with_reducible refine below_drewN ?_ _ | with_reducible refine Below.setCell ?_ ?_ _ | with_reducible refine Below.alloc ?_ ?_ _ | omega | (simp; done) | (simp; omega)))) hb3
  clear hb3 hw2
  go_wp2_with fail
  all_goals (try go_wp2_with fail)
  all_goals go_ret
  all_goals exact ⟨rfl, hw3⟩

end Go.Proofs.YtjcdlhplflmneaaDoor
