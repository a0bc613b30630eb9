/- Brackets in memory; prov.isScale, titheref.SameBrackets: walks. -/
import Derived.Test.YtngckppnaflciaaDoorBkN
import Derived.Deep.Draws
namespace Go.Proofs.YtngckppnaflciaaDoor
open Go.RowKit

abbrev BI := Int × Int × Int × Int
def encR (b : BI) : List Value := [.int .i64 b.1, .int .i64 b.2.1, .int .i64 b.2.2.1, .int .i64 b.2.2.2]

theorem encR_len (b : BI) : (encR b).length = 4 := rfl

def In4 (b : BI) : Prop := (-9223372036854775808 ≤ b.1 ∧ b.1 ≤ 9223372036854775807) ∧ (-9223372036854775808 ≤ b.2.1 ∧ b.2.1 ≤ 9223372036854775807) ∧ (-9223372036854775808 ≤ b.2.2.1 ∧ b.2.2.1 ≤ 9223372036854775807) ∧ (-9223372036854775808 ≤ b.2.2.2 ∧ b.2.2.2 ≤ 9223372036854775807)

/-- one element's cells -/
theorem cells4 {w : World} {B : Nat} {A : Option Addr} {s : List BI} {k : Nat} {b : BI} (h : RowAt encR 4 w B A s) (hk : s[k]? = some b) : ∃ g off, A = some ⟨g, off, none⟩ ∧ g < B ∧
    w.cell? ⟨g, off + k * 4, none⟩ = some (.int .i64 b.1) ∧ w.cell? ⟨g, off + k * 4 + 1, none⟩ = some (.int .i64 b.2.1) ∧ w.cell? ⟨g, off + k * 4 + 2, none⟩ = some (.int .i64 b.2.2.1) ∧ w.cell? ⟨g, off + k * 4 + 3, none⟩ = some (.int .i64 b.2.2.2) := by
  obtain ⟨g, off, rfl, hg, hc⟩ := h k b hk
  exact ⟨g, off, rfl, hg, hc 0 _ rfl, hc 1 _ rfl, hc 2 _ rfl, hc 3 _ rfl⟩

theorem encR_flat (s : List BI) : (s.flatMap encR).length = s.length * 4 := flat_len (fun x _ => encR_len x)

theorem encR_one (s : List BI) : ∀ u ∈ s.flatMap encR, u.oneCell' = true := by
  intro u hu
  obtain ⟨b, _, hb⟩ := List.mem_flatMap.1 hu
  simp only [encR, List.mem_cons, List.not_mem_nil, or_false] at hb
  rcases hb with rfl | rfl | rfl | rfl <;> rfl

/-- 'append' onto a slice of the call's own, any source -/
theorem wpList_append_any {P : Program} {ops : Array Oper} {rest : List Oper} {o : Oper} {a : Act} {w : World} {Q : Exit → Act → World → Prop} (hgd : o.guard = none) (s x : Operand) (t : TypeId)
    (ho : o.op = .call { callee := .builtin .append, args := #[s, x], argTypes := #[t, t] })
    (base : Nat) (e : TypeId) (i : TypeInfo) (z : Value) (size bytes : Nat) (ht : P.underlying t = some (.slice e)) (hi : P.info? e = some i) (hz : i.zero = some z)
    (hsize : i.size = size) (hby : i.bytes = bytes) (hzs : z.cells.size = size) (hsz : 0 < size)
    (v : Value) (n : Nat) (xs : List Value) (hs : a.eval s = v) (hown : w.ownsRow base e size v n xs)
    (A : Option Addr) (m c : Nat) (news : List Value) (hx : a.eval x = .slice A m c) (hl : news.length = m * size) (hnews : ∀ ad, A = some ad → ∀ j u, news[j]? = some u → w.cell? (ad.add j) = some u) (hA : A = none → m = 0 ∧ c = 0) (h1 : ∀ u ∈ news, u.oneCell' = true)
    (h63 : n + m ≤ maxLen) (hbytes : (n + m) * bytes ≤ 140737488355328) (hbase : base ≤ w.heap.size)
    (h : ∀ v' w', w'.ownsRow base e size v' (n + m) (xs ++ news) → w.grownBy w' v.ownBlock → wpList P ops Q rest (a.put o.dst v') w') : wpList P ops Q (o :: rest) a w := by
  refine wpList_plain hgd fun K hK => ?_
  cases A with
  | some ad => exact wp_append_own w s x t ho base e i z size bytes ht hi hz hsize hby hzs hsz v n xs hs hown ad m c news hx hl (hnews ad rfl) h1 h63 hbytes hbase fun v' w' h2 h3 _ => hK _ _ (h v' w' h2 h3)
  | none =>
    obtain ⟨rfl, rfl⟩ := hA rfl
    have hrun := run_append_owned_none (P := P) (w := w) base t o.type e i size ht hi v n xs hown
    obtain rfl : news = [] := List.eq_nil_of_length_eq_zero (by simpa using hl)
    unfold Oper.wp
    simp [execOp, ho, resolve, invoke, builtin, hs, hx, hrun, Result.andThen]
    exact hK _ _ (h _ _ (by simpa using hown) ⟨rfl, rfl, rfl, Nat.le_refl _, fun _ _ _ => rfl⟩)

theorem rowFlat {α : Type} {enc : α → List Value} {size : Nat} (hs : ∀ x, (enc x).length = size) (hsz : 0 < size) {w : World} {B : Nat} {A : Option Addr} {l : List α} (h : RowAt enc size w B A l) : ∀ ad, A = some ad → ∀ j u, (l.flatMap enc)[j]? = some u → w.cell? (ad.add j) = some u := by
  intro ad ha j u hj
  have hlt : j < l.length * size := by rw [← flat_len (fun x _ => hs x)]; exact (List.getElem?_eq_some_iff.1 hj).1
  have hdiv : j / size < l.length := Nat.div_lt_of_lt_mul (by rw [Nat.mul_comm]; exact hlt)
  obtain ⟨b, hb⟩ : ∃ b, l[j / size]? = some b := ⟨l[j / size], List.getElem?_eq_getElem hdiv⟩
  obtain ⟨g, off, e, _, hc⟩ := h (j / size) b hb
  rw [e] at ha
  cases ha
  have hm : j % size < (enc b).length := by rw [hs]; exact Nat.mod_lt _ hsz
  have hf := flat_at (l := l) (enc := enc) (size := size) (fun x _ => hs x) hb (List.getElem?_eq_getElem hm)
  have hjd : j / size * size + j % size = j := Nat.div_add_mod' j size
  rw [hjd, hj] at hf
  have := hc (j % size) _ (List.getElem?_eq_getElem hm)
  rw [← hf, show off + j / size * size + j % size = off + j by omega] at this
  rw [Go.WideShapes.add_plain]
  exact this

set_option maxRecDepth 10000 in
set_option maxHeartbeats 4000000 in
/-- brackets that read alike are the same -/
theorem sameBr_any (l : List BI) (A B : Option Addr) (c d : Nat) (w : World) (hl : RowAt encR 4 w w.heap.size A l) (hm : RowAt encR 4 w w.heap.size B l) (h1 : l.length ≤ 1000000) :
    Calls Tryd.prog 53 #[.slice A l.length c, .slice B l.length d] w fun e w' => e = .returned (.bool true) ∧ Below w.heap.size w w' := by
  have HL := Lib.hid hl
  have HM := Lib.hid hm
  clear hl hm
  have hne : (((l.length : Int)) != (l.length : Int)) = false := by simp
  go_enter Tryd.func53, Tryd.ntmps53
  go_wp2_with fail
  go_loopw [5] (fun i wr => ∃ k : Nat, k ≤ l.length ∧ i = .int .i64 k ∧ Below w.heap.size w wr) (fun i _ => l.length - (intOf i).toNat)
  case atStart => exact ⟨0, Nat.zero_le _, rfl, by (repeat' (first | with_reducible exact Below.refl _ _ | with_reducible assumption | with_reducible refine Below.drew ?_ | with_reducible refine below_drewN ?_ _ | with_reducible refine Below.setCell ?_ ?_ _ | with_reducible refine Below.alloc ?_ ?_ _ | omega | (simp; done) | (simp; omega)))⟩
  case round =>
    obtain ⟨k, hk, rfl, hw0⟩ := hrel
    have z0 := hw0.size
    by_cases hlt : k < l.length
    · obtain ⟨⟨n1, d1, n2, d2⟩, hx⟩ : ∃ x, l[k]? = some x := ⟨l[k], List.getElem?_eq_getElem hlt⟩
      obtain ⟨g, off, rfl, hg, k0, k1, k2, k3⟩ := cells4 (HL.out.below hw0 (Nat.le_refl _)) hx
      replace k0 : wr.cell? ⟨g, off + k * 4, none⟩ = some (.int .i64 n1) := k0
      replace k1 : wr.cell? ⟨g, off + k * 4 + 1, none⟩ = some (.int .i64 d1) := k1
      replace k2 : wr.cell? ⟨g, off + k * 4 + 2, none⟩ = some (.int .i64 n2) := k2
      replace k3 : wr.cell? ⟨g, off + k * 4 + 3, none⟩ = some (.int .i64 d2) := k3
      obtain ⟨g2, off2, rfl, hg2, j0, j1, j2, j3⟩ := cells4 (HM.out.below hw0 (Nat.le_refl _)) hx
      replace j0 : wr.cell? ⟨g2, off2 + k * 4, none⟩ = some (.int .i64 n1) := j0
      replace j1 : wr.cell? ⟨g2, off2 + k * 4 + 1, none⟩ = some (.int .i64 d1) := j1
      replace j2 : wr.cell? ⟨g2, off2 + k * 4 + 2, none⟩ = some (.int .i64 n2) := j2
      replace j3 : wr.cell? ⟨g2, off2 + k * 4 + 3, none⟩ = some (.int .i64 d2) := j3
      clear hx
      have HB1 : Hid (same2 n1 d1 n1 d1 = true) := Lib.hid (by unfold same2; simp)
      have HB2 : Hid (same2 n2 d2 n2 d2 = true) := Lib.hid (by unfold same2; simp)
      have i1 : (k : Int) < (l.length : Int) := by omega
      go_wp2_with fail
      go_region_held3 (fun w' => w'.cell? ⟨g, off + k * 4, none⟩ = some (.int .i64 n1) ∧ w'.cell? ⟨g, off + k * 4 + 1, none⟩ = some (.int .i64 d1) ∧ w'.cell? ⟨g, off + k * 4 + 2, none⟩ = some (.int .i64 n2) ∧ w'.cell? ⟨g, off + k * 4 + 3, none⟩ = some (.int .i64 d2) ∧ w'.cell? ⟨g2, off2 + k * 4, none⟩ = some (.int .i64 n1) ∧ w'.cell? ⟨g2, off2 + k * 4 + 1, none⟩ = some (.int .i64 d1) ∧ w'.cell? ⟨g2, off2 + k * 4 + 2, none⟩ = some (.int .i64 n2) ∧ w'.cell? ⟨g2, off2 + k * 4 + 3, none⟩ = some (.int .i64 d2)) (first | with_reducible exact ⟨k0, k1, k2, k3, j0, j1, j2, j3⟩ | go_keep)
        (first
          | (go_at_call 54; with_reducible refine (frac_same n1 d1 n1 d1 true _ HB1.out).mono ?_; rintro e w9 ⟨rfl, hb9⟩; have hw9 : Below w.heap.size w w9 := stepH (by (repeat' (first | with_reducible exact Below.refl _ _ | with_reducible assumption | with_reducible refine Below.drew ?_ | with_reducible refine below_drewN ?_ _ | with_reducible refine Below.setCell ?_ ?_ _ | with_reducible refine Below.alloc ?_ ?_ _ | omega | (simp; done) | (simp; omega)))) hb9; have k0 := cellOf hb9 (by first | exact k0 | exact cell_drew k0); have k1 := cellOf hb9 (by first | exact k1 | exact cell_drew k1); have k2 := cellOf hb9 (by first | exact k2 | exact cell_drew k2); have k3 := cellOf hb9 (by first | exact k3 | exact cell_drew k3); have j0 := cellOf hb9 (by first | exact j0 | exact cell_drew j0); have j1 := cellOf hb9 (by first | exact j1 | exact cell_drew j1); have j2 := cellOf hb9 (by first | exact j2 | exact cell_drew j2); have j3 := cellOf hb9 (by first | exact j3 | exact cell_drew j3))
          | (go_at_call 54; refine (frac_same n2 d2 n2 d2 true _ HB2.out).mono ?_; rintro e w10 ⟨rfl, hb10⟩; have hw10 : Below w.heap.size w w10 := stepH (by (repeat' (first | with_reducible exact Below.refl _ _ | with_reducible assumption | with_reducible refine Below.drew ?_ | with_reducible refine below_drewN ?_ _ | with_reducible refine Below.setCell ?_ ?_ _ | with_reducible refine Below.alloc ?_ ?_ _ | omega | (simp; done) | (simp; omega)))) hb10; have k0 := cellOf hb10 (by exact k0); have k1 := cellOf hb10 (by exact k1); have k2 := cellOf hb10 (by exact k2); have k3 := cellOf hb10 (by exact k3); have j0 := cellOf hb10 (by exact j0); have j1 := cellOf hb10 (by exact j1); have j2 := cellOf hb10 (by exact j2); have j3 := cellOf hb10 (by exact j3)))
      go_wp2_with fail
      go_roundw
      case rel => exact ⟨k + 1, by omega, by go_num, by (repeat' (first | with_reducible exact Below.refl _ _ | with_reducible assumption | with_reducible refine Below.drew ?_ | with_reducible refine below_drewN ?_ _ | with_reducible refine Below.setCell ?_ ?_ _ | with_reducible refine Below.alloc ?_ ?_ _ | omega | (simp; done) | (simp; omega)))⟩
      case measure => simp [intOf]; omega
    · obtain rfl : k = l.length := by omega
      go_wp2_with fail
      go_ret
      exact ⟨rfl, by (repeat' (first | with_reducible exact Below.refl _ _ | with_reducible assumption | with_reducible refine Below.drew ?_ | with_reducible refine below_drewN ?_ _ | with_reducible refine Below.setCell ?_ ?_ _ | with_reducible refine Below.alloc ?_ ?_ _ | omega | (simp; done) | (simp; omega)))⟩

/-- a bracket's From below another's -/
def lessQ (a b : BI) : Bool := decide (Rat.divInt a.1 a.2.1 < Rat.divInt b.1 b.2.1)
/-- what isScale asks of the k-th bracket -/
def goodAt (l : List BI) (k : Nat) : Bool :=
  match l[k]? with
  | none => true
  | some b => validB b.1 b.2.1 && (validB b.2.2.1 b.2.2.2 && (match k with | 0 => true | j + 1 => (match l[j]? with | none => true | some a => lessQ a b)))
def scaleB (l : List BI) : Bool := decide (0 < l.length) && (decide (l.length ≤ 32) && (List.range l.length).all (goodAt l))
theorem scaleB_bad {l : List BI} {k : Nat} (hk : k < l.length) (h : goodAt l k = false) : scaleB l = false := by
  unfold scaleB
  have : (List.range l.length).all (goodAt l) = false := List.all_eq_false.2 ⟨k, List.mem_range.2 hk, by rw [h]; decide⟩
  rw [this]; simp
theorem scaleB_ok {l : List BI} (h0 : 0 < l.length) (h1 : l.length ≤ 32) (h : ∀ k, k < l.length → goodAt l k = true) : scaleB l = true := by
  unfold scaleB
  rw [decide_eq_true h0, decide_eq_true h1, List.all_eq_true.2 (fun k hk => h k (List.mem_range.1 hk))]; rfl

set_option maxRecDepth 100000 in
set_option maxHeartbeats 8000000 in
theorem isScale_any (l : List BI) (A : Option Addr) (c : Nat) (w : World) (hl : RowAt encR 4 w w.heap.size A l) (hm : l.length ≤ 9223372036854775807) (hI : ∀ b ∈ l, In4 b) :
    Calls Tryd.prog 51 #[.slice A l.length c] w fun e w' => e = .returned (.bool (scaleB l)) ∧ Below w.heap.size w w' := by
  have HL := Lib.hid hl
  have HI := Lib.hid hI
  clear hl hI
  by_cases h0 : l.length = 0
  · have HR : Hid (scaleB l = false) := by show _ = _; unfold scaleB; rw [h0]; rfl
    have e0 : ((l.length : Int) == 0) = true := by rw [h0]; rfl
    clear h0
    go_enter Tryd.func51, Tryd.ntmps51
    go_wp2_with fail
    go_ret
    exact ⟨by rw [HR.out]; rfl, by (repeat' (first | with_reducible exact Below.refl _ _ | with_reducible assumption | with_reducible refine Below.drew ?_ | with_reducible refine below_drewN ?_ _ | with_reducible refine Below.setCell ?_ ?_ _ | with_reducible refine Below.alloc ?_ ?_ _ | omega | (simp; done) | (simp; omega)))⟩
  · have e0 : ((l.length : Int) == 0) = false := by rw [beq_eq_false_iff_ne]; omega
    by_cases h1 : 32 < l.length
    · have HR : Hid (scaleB l = false) := by show _ = _; unfold scaleB; rw [decide_eq_false (show ¬ l.length ≤ 32 by omega)]; simp
      have e1 : decide ((32 : Int) < (l.length : Int)) = true := decide_eq_true (by omega)
      clear h0 h1
      go_enter Tryd.func51, Tryd.ntmps51
      go_wp2_with fail
      go_ret
      exact ⟨by rw [HR.out]; rfl, by (repeat' (first | with_reducible exact Below.refl _ _ | with_reducible assumption | with_reducible refine Below.drew ?_ | with_reducible refine below_drewN ?_ _ | with_reducible refine Below.setCell ?_ ?_ _ | with_reducible refine Below.alloc ?_ ?_ _ | omega | (simp; done) | (simp; omega)))⟩
    · have e1 : decide ((32 : Int) < (l.length : Int)) = false := decide_eq_false (by omega)
      go_enter Tryd.func51, Tryd.ntmps51
      go_wp2_with fail
      go_loopw [15] (fun i wr => ∃ k : Nat, k ≤ l.length ∧ i = .int .i64 k ∧ Hid (∀ j, j < k → goodAt l j = true) ∧ Below w.heap.size w wr) (fun i _ => l.length - (intOf i).toNat)
      case atStart => exact ⟨0, Nat.zero_le _, rfl, Lib.hid (fun j h => by omega), Below.refl _ _⟩
      case round =>
        obtain ⟨k, hk, rfl, HK, hw0⟩ := hrel
        have z0 := hw0.size
        by_cases hlt : k < l.length
        · have hlt2 : (k : Int) < (l.length : Int) := by omega
          obtain ⟨⟨n1, d1, n2, d2⟩, hx⟩ : ∃ x, l[k]? = some x := ⟨l[k], List.getElem?_eq_getElem hlt⟩
          have HX := Lib.hid hx
          obtain ⟨⟨i1, i1b⟩, ⟨i2, i2b⟩, ⟨i3, i3b⟩, i4, i4b⟩ := HI.out _ (List.mem_of_getElem? hx)
          obtain ⟨g, off, rfl, hg, k0, k1, k2, k3⟩ := cells4 (HL.out.below hw0 (Nat.le_refl _)) hx
          replace k0 : wr.cell? ⟨g, off + k * 4, none⟩ = some (.int .i64 n1) := k0
          replace k1 : wr.cell? ⟨g, off + k * 4 + 1, none⟩ = some (.int .i64 d1) := k1
          replace k2 : wr.cell? ⟨g, off + k * 4 + 2, none⟩ = some (.int .i64 n2) := k2
          replace k3 : wr.cell? ⟨g, off + k * 4 + 3, none⟩ = some (.int .i64 d2) := k3
          clear hx h0
          have HW0 := Lib.hid hw0
          cases hv1 : validB n1 d1 with
          | false =>
            have HV1 := Lib.hid hv1
            have HB : Hid (goodAt l k = false) := by show _ = _; unfold goodAt; rw [HX.out]; simp [hv1]
            clear hv1
            go_wp2_with fail
            have hw1 : Below w.heap.size w (wr.alloc (.cells #[.int .i64 n1, .int .i64 d1, .int .i64 n2, .int .i64 d2] 97)) := by (repeat' (first | with_reducible exact Below.refl _ _ | with_reducible assumption | with_reducible refine Below.drew ?_ | with_reducible refine below_drewN ?_ _ | with_reducible refine Below.setCell ?_ ?_ _ | with_reducible refine Below.alloc ?_ ?_ _ | omega | (simp; done) | (simp; omega)))
            have X0 : Hid ((wr.alloc (.cells #[.int .i64 n1, .int .i64 d1, .int .i64 n2, .int .i64 d2] 97)).heap[wr.heap.size]? = some (.cells #[.int .i64 n1, .int .i64 d1, .int .i64 n2, .int .i64 d2] 97 (0, 0))) := blk_new rfl
            have x0 : (wr.alloc (.cells #[.int .i64 n1, .int .i64 d1, .int .i64 n2, .int .i64 d2] 97)).cell? ⟨wr.heap.size, 0, none⟩ = some (.int .i64 n1) := cellH X0 0
            have x1 : (wr.alloc (.cells #[.int .i64 n1, .int .i64 d1, .int .i64 n2, .int .i64 d2] 97)).cell? ⟨wr.heap.size, 1, none⟩ = some (.int .i64 d1) := cellH X0 1
            have x2 : (wr.alloc (.cells #[.int .i64 n1, .int .i64 d1, .int .i64 n2, .int .i64 d2] 97)).cell? ⟨wr.heap.size, 2, none⟩ = some (.int .i64 n2) := cellH X0 2
            have x3 : (wr.alloc (.cells #[.int .i64 n1, .int .i64 d1, .int .i64 n2, .int .i64 d2] 97)).cell? ⟨wr.heap.size, 3, none⟩ = some (.int .i64 d2) := cellH X0 3
            clear k0 k1 k2 k3 X0
            generalize (wr.alloc (.cells #[.int .i64 n1, .int .i64 d1, .int .i64 n2, .int .i64 d2] 97)) = w1 at *
            refine wp_region_held_drew (S := fun w' => w'.cell? ⟨wr.heap.size, 0, none⟩ = some (.int .i64 n1) ∧ w'.cell? ⟨wr.heap.size, 1, none⟩ = some (.int .i64 d1) ∧ w'.cell? ⟨wr.heap.size, 2, none⟩ = some (.int .i64 n2) ∧ w'.cell? ⟨wr.heap.size, 3, none⟩ = some (.int .i64 d2)) (by kernel_rfl) ?_ (fun hH0 => ?_)
            · exact ⟨x0, x1, x2, x3⟩
            refine wpAnyH_take (i := 0) (oi := { dst := some 20, op := Go.Op.fieldAddr 97 (Go.Operand.tmp 4) 0, type := 0, pos := "prov.go:30", after := #[], guard := none }) (v := ?_) rfl (by kernel_rfl) (by kernel_rfl) (by kernel_rfl) (fun _ _ _ h => h) (Or.inl ⟨by rfl, ?_⟩) (by assumption) ?_
            rotate_left
            · intro wq hSw; (try dsimp only at hSw); go_simp; (try with_reducible rfl)
            try simp only [Act.put, List.setIfInBounds_toArray, List.set_cons_zero, List.set_cons_succ]
            refine wpAnyH_take (i := 1) (oi := { dst := some 21, op := Go.Op.load 36 (Go.Operand.tmp 20), type := 36, pos := "prov.go:30", after := #[{ on := 0, ground := Go.Ground.data }], guard := none }) (v := ?_) rfl (by kernel_rfl) (by kernel_rfl) (by kernel_rfl) (fun _ _ _ h => h) (Or.inl ⟨by rfl, ?_⟩) (by assumption) ?_
            rotate_left
            · intro wq hSw; (try dsimp only at hSw); go_simp; (try with_reducible rfl)
            try simp only [Act.put, List.setIfInBounds_toArray, List.set_cons_zero, List.set_cons_succ]
            refine wpAnyH_ready (rs := [2]) (by kernel_rfl) (by simp) ?_
            refine AllReadyH.cons (o := { dst := some 22, op := Go.Op.call { callee := Go.Callee.value (Go.Operand.func 50), args := #[Go.Operand.tmp 21], argTypes := #[36] }, type := 4, pos := "prov.go:30", after := #[{ on := 1, ground := Go.Ground.data }], guard := none }) rfl (fun K hK => ?_) ?_
            rotate_left
            · exact AllReadyH.nil
            go_simp
            refine (valid_is n1 d1 false _ HV1.out i1 i1b i2 i2b).mono ?_
            rintro e w2 ⟨rfl, hb2⟩
            have hw2 : Below w.heap.size w w2 := stepH hw1.drew hb2
            replace x0 : w2.cell? ⟨wr.heap.size, 0, none⟩ = some (.int .i64 n1) := cellOf hb2 (cell_drew x0)
            replace x1 : w2.cell? ⟨wr.heap.size, 1, none⟩ = some (.int .i64 d1) := cellOf hb2 (cell_drew x1)
            replace x2 : w2.cell? ⟨wr.heap.size, 2, none⟩ = some (.int .i64 n2) := cellOf hb2 (cell_drew x2)
            replace x3 : w2.cell? ⟨wr.heap.size, 3, none⟩ = some (.int .i64 d2) := cellOf hb2 (cell_drew x3)
            clear hb2
            go_wp2_with fail
            refine hK.out _ _ ?_ (fun hH1 => ?_)
            · (try dsimp only); exact ⟨x0, x1, x2, x3⟩
            clear hK K
            clear hH0
            try simp only [Act.put, List.setIfInBounds_toArray, List.set_cons_zero, List.set_cons_succ]
            refine wpAnyH_take (i := 3) (oi := { dst := some 23, op := Go.Op.unOp Go.UnOp.not 4 (Go.Operand.tmp 22), type := 4, pos := "prov.go:30", after := #[{ on := 2, ground := Go.Ground.data }], guard := none }) (v := ?_) rfl (by kernel_rfl) (by kernel_rfl) (by kernel_rfl) (fun _ _ _ h => h) (Or.inl ⟨by rfl, ?_⟩) (by assumption) ?_
            rotate_left
            · intro wq hSw; (try dsimp only at hSw); go_simp; (try with_reducible rfl)
            try simp only [Act.put, List.setIfInBounds_toArray, List.set_cons_zero, List.set_cons_succ]
            refine wpAnyH_take (i := 4) (oi := { dst := some 24, op := Go.Op.move (Go.Operand.tmp 23), type := 4, pos := "prov.go:30", after := #[{ on := 3, ground := Go.Ground.data }, { on := 2, ground := Go.Ground.chain }], guard := none }) (v := ?_) rfl (by kernel_rfl) (by kernel_rfl) (by kernel_rfl) (fun _ _ _ h => h) (Or.inl ⟨by rfl, ?_⟩) (by assumption) ?_
            rotate_left
            · intro wq hSw; (try dsimp only at hSw); go_simp; (try with_reducible rfl)
            try simp only [Act.put, List.setIfInBounds_toArray, List.set_cons_zero, List.set_cons_succ]
            refine wpAnyH_take (i := 5) (oi := { dst := some 25, op := Go.Op.fieldAddr 97 (Go.Operand.tmp 4) 1, type := 0, pos := "prov.go:30", after := #[{ on := 4, ground := Go.Ground.guard }], guard := some (4, false) }) (v := undef) rfl (by kernel_rfl) (by kernel_rfl) (by kernel_rfl) (fun _ _ _ h => h) (Or.inr ⟨by rfl, rfl⟩) (by assumption) ?_
            try simp only [Act.put, List.setIfInBounds_toArray, List.set_cons_zero, List.set_cons_succ]
            refine wpAnyH_take (i := 6) (oi := { dst := some 26, op := Go.Op.load 36 (Go.Operand.tmp 25), type := 36, pos := "prov.go:30", after := #[{ on := 5, ground := Go.Ground.data }, { on := 4, ground := Go.Ground.guard }], guard := some (4, false) }) (v := undef) rfl (by kernel_rfl) (by kernel_rfl) (by kernel_rfl) (fun _ _ _ h => h) (Or.inr ⟨by rfl, rfl⟩) (by assumption) ?_
            try simp only [Act.put, List.setIfInBounds_toArray, List.set_cons_zero, List.set_cons_succ]
            refine wpAnyH_take (i := 7) (oi := { dst := some 27, op := Go.Op.call { callee := Go.Callee.value (Go.Operand.func 50), args := #[Go.Operand.tmp 26], argTypes := #[36] }, type := 4, pos := "prov.go:30", after := #[{ on := 6, ground := Go.Ground.data }, { on := 4, ground := Go.Ground.chain }, { on := 4, ground := Go.Ground.guard }], guard := some (4, false) }) (v := undef) rfl (by kernel_rfl) (by kernel_rfl) (by kernel_rfl) (fun _ _ _ h => h) (Or.inr ⟨by rfl, rfl⟩) (by assumption) ?_
            try simp only [Act.put, List.setIfInBounds_toArray, List.set_cons_zero, List.set_cons_succ]
            refine wpAnyH_take (i := 8) (oi := { dst := some 28, op := Go.Op.unOp Go.UnOp.not 4 (Go.Operand.tmp 27), type := 4, pos := "prov.go:30", after := #[{ on := 7, ground := Go.Ground.data }, { on := 4, ground := Go.Ground.guard }], guard := some (4, false) }) (v := undef) rfl (by kernel_rfl) (by kernel_rfl) (by kernel_rfl) (fun _ _ _ h => h) (Or.inr ⟨by rfl, rfl⟩) (by assumption) ?_
            try simp only [Act.put, List.setIfInBounds_toArray, List.set_cons_zero, List.set_cons_succ]
            refine wpAnyH_take (i := 9) (oi := { dst := some 29, op := Go.Op.pick (Go.Operand.tmp 24) (Go.Operand.const (Go.Value.bool true)) (Go.Operand.tmp 28), type := 4, pos := "prov.go:30", after := #[{ on := 4, ground := Go.Ground.data }, { on := 8, ground := Go.Ground.data }], guard := none }) (v := ?_) rfl (by kernel_rfl) (by kernel_rfl) (by kernel_rfl) (fun _ _ _ h => h) (Or.inl ⟨by rfl, ?_⟩) (by assumption) ?_
            rotate_left
            · intro wq hSw; (try dsimp only at hSw); go_simp; (try with_reducible rfl)
            try simp only [Act.put, List.setIfInBounds_toArray, List.set_cons_zero, List.set_cons_succ]
            refine wpAnyH_take (i := 10) (oi := { dst := some 30, op := Go.Op.move (Go.Operand.tmp 29), type := 4, pos := "prov.go:30", after := #[{ on := 9, ground := Go.Ground.data }, { on := 7, ground := Go.Ground.chain }], guard := none }) (v := ?_) rfl (by kernel_rfl) (by kernel_rfl) (by kernel_rfl) (fun _ _ _ h => h) (Or.inl ⟨by rfl, ?_⟩) (by assumption) ?_
            rotate_left
            · intro wq hSw; (try dsimp only at hSw); go_simp; (try with_reducible rfl)
            try simp only [Act.put, List.setIfInBounds_toArray, List.set_cons_zero, List.set_cons_succ]
            refine wpAnyH_take (i := 11) (oi := { dst := some 31, op := Go.Op.move (Go.Operand.tmp 3), type := 3, pos := "prov.go:30", after := #[{ on := 10, ground := Go.Ground.guard }], guard := some (10, false) }) (v := undef) rfl (by kernel_rfl) (by kernel_rfl) (by kernel_rfl) (fun _ _ _ h => h) (Or.inr ⟨by rfl, rfl⟩) (by assumption) ?_
            try simp only [Act.put, List.setIfInBounds_toArray, List.set_cons_zero, List.set_cons_succ]
            refine wpAnyH_take (i := 12) (oi := { dst := some 32, op := Go.Op.binOp Go.BinOp.gtr 3 (Go.Operand.tmp 31) (Go.Operand.const (Go.Value.int Go.IntKind.i64 0)) 3, type := 4, pos := "prov.go:30", after := #[{ on := 11, ground := Go.Ground.data }, { on := 10, ground := Go.Ground.guard }], guard := some (10, false) }) (v := undef) rfl (by kernel_rfl) (by kernel_rfl) (by kernel_rfl) (fun _ _ _ h => h) (Or.inr ⟨by rfl, rfl⟩) (by assumption) ?_
            try simp only [Act.put, List.setIfInBounds_toArray, List.set_cons_zero, List.set_cons_succ]
            refine wpAnyH_take (i := 13) (oi := { dst := some 33, op := Go.Op.move (Go.Operand.tmp 32), type := 4, pos := "prov.go:30", after := #[{ on := 12, ground := Go.Ground.data }, { on := 10, ground := Go.Ground.chain }, { on := 10, ground := Go.Ground.guard }], guard := some (10, false) }) (v := undef) rfl (by kernel_rfl) (by kernel_rfl) (by kernel_rfl) (fun _ _ _ h => h) (Or.inr ⟨by rfl, rfl⟩) (by assumption) ?_
            try simp only [Act.put, List.setIfInBounds_toArray, List.set_cons_zero, List.set_cons_succ]
            refine wpAnyH_take (i := 14) (oi := { dst := some 34, op := Go.Op.fieldAddr 97 (Go.Operand.tmp 4) 0, type := 0, pos := "prov.go:30", after := #[{ on := 13, ground := Go.Ground.guard }], guard := some (13, true) }) (v := undef) rfl (by kernel_rfl) (by kernel_rfl) (by kernel_rfl) (fun _ _ _ h => h) (Or.inr ⟨by rfl, rfl⟩) (by assumption) ?_
            try simp only [Act.put, List.setIfInBounds_toArray, List.set_cons_zero, List.set_cons_succ]
            refine wpAnyH_take (i := 15) (oi := { dst := some 35, op := Go.Op.load 36 (Go.Operand.tmp 34), type := 36, pos := "prov.go:30", after := #[{ on := 14, ground := Go.Ground.data }, { on := 13, ground := Go.Ground.guard }], guard := some (13, true) }) (v := undef) rfl (by kernel_rfl) (by kernel_rfl) (by kernel_rfl) (fun _ _ _ h => h) (Or.inr ⟨by rfl, rfl⟩) (by assumption) ?_
            try simp only [Act.put, List.setIfInBounds_toArray, List.set_cons_zero, List.set_cons_succ]
            refine wpAnyH_take (i := 16) (oi := { dst := some 36, op := Go.Op.move (Go.Operand.tmp 0), type := 37, pos := "prov.go:30", after := #[{ on := 13, ground := Go.Ground.guard }], guard := some (13, true) }) (v := undef) rfl (by kernel_rfl) (by kernel_rfl) (by kernel_rfl) (fun _ _ _ h => h) (Or.inr ⟨by rfl, rfl⟩) (by assumption) ?_
            try simp only [Act.put, List.setIfInBounds_toArray, List.set_cons_zero, List.set_cons_succ]
            refine wpAnyH_take (i := 17) (oi := { dst := some 37, op := Go.Op.move (Go.Operand.tmp 3), type := 3, pos := "prov.go:30", after := #[{ on := 13, ground := Go.Ground.guard }], guard := some (13, true) }) (v := undef) rfl (by kernel_rfl) (by kernel_rfl) (by kernel_rfl) (fun _ _ _ h => h) (Or.inr ⟨by rfl, rfl⟩) (by assumption) ?_
            try simp only [Act.put, List.setIfInBounds_toArray, List.set_cons_zero, List.set_cons_succ]
            refine wpAnyH_take (i := 18) (oi := { dst := some 38, op := Go.Op.binOp Go.BinOp.sub 3 (Go.Operand.tmp 37) (Go.Operand.const (Go.Value.int Go.IntKind.i64 1)) 3, type := 3, pos := "prov.go:30", after := #[{ on := 17, ground := Go.Ground.data }, { on := 13, ground := Go.Ground.guard }], guard := some (13, true) }) (v := undef) rfl (by kernel_rfl) (by kernel_rfl) (by kernel_rfl) (fun _ _ _ h => h) (Or.inr ⟨by rfl, rfl⟩) (by assumption) ?_
            try simp only [Act.put, List.setIfInBounds_toArray, List.set_cons_zero, List.set_cons_succ]
            refine wpAnyH_take (i := 19) (oi := { dst := some 39, op := Go.Op.indexAddr 37 (Go.Operand.tmp 36) (Go.Operand.tmp 38), type := 0, pos := "prov.go:30", after := #[{ on := 16, ground := Go.Ground.data }, { on := 18, ground := Go.Ground.data }, { on := 13, ground := Go.Ground.guard }], guard := some (13, true) }) (v := undef) rfl (by kernel_rfl) (by kernel_rfl) (by kernel_rfl) (fun _ _ _ h => h) (Or.inr ⟨by rfl, rfl⟩) (by assumption) ?_
            try simp only [Act.put, List.setIfInBounds_toArray, List.set_cons_zero, List.set_cons_succ]
            refine wpAnyH_take (i := 20) (oi := { dst := some 40, op := Go.Op.fieldAddr 97 (Go.Operand.tmp 39) 0, type := 0, pos := "prov.go:30", after := #[{ on := 19, ground := Go.Ground.data }, { on := 13, ground := Go.Ground.guard }], guard := some (13, true) }) (v := undef) rfl (by kernel_rfl) (by kernel_rfl) (by kernel_rfl) (fun _ _ _ h => h) (Or.inr ⟨by rfl, rfl⟩) (by assumption) ?_
            try simp only [Act.put, List.setIfInBounds_toArray, List.set_cons_zero, List.set_cons_succ]
            refine wpAnyH_take (i := 21) (oi := { dst := some 41, op := Go.Op.load 36 (Go.Operand.tmp 40), type := 36, pos := "prov.go:30", after := #[{ on := 20, ground := Go.Ground.data }, { on := 13, ground := Go.Ground.guard }], guard := some (13, true) }) (v := undef) rfl (by kernel_rfl) (by kernel_rfl) (by kernel_rfl) (fun _ _ _ h => h) (Or.inr ⟨by rfl, rfl⟩) (by assumption) ?_
            try simp only [Act.put, List.setIfInBounds_toArray, List.set_cons_zero, List.set_cons_succ]
            refine wpAnyH_take (i := 22) (oi := { dst := some 42, op := Go.Op.call { callee := Go.Callee.value (Go.Operand.func 65), args := #[Go.Operand.tmp 35, Go.Operand.tmp 41], argTypes := #[36, 36] }, type := 3, pos := "prov.go:30", after := #[{ on := 15, ground := Go.Ground.data }, { on := 21, ground := Go.Ground.data }, { on := 13, ground := Go.Ground.chain }, { on := 13, ground := Go.Ground.guard }], guard := some (13, true) }) (v := undef) rfl (by kernel_rfl) (by kernel_rfl) (by kernel_rfl) (fun _ _ _ h => h) (Or.inr ⟨by rfl, rfl⟩) (by assumption) ?_
            try simp only [Act.put, List.setIfInBounds_toArray, List.set_cons_zero, List.set_cons_succ]
            refine wpAnyH_take (i := 23) (oi := { dst := some 43, op := Go.Op.binOp Go.BinOp.leq 3 (Go.Operand.tmp 42) (Go.Operand.const (Go.Value.int Go.IntKind.i64 0)) 3, type := 4, pos := "prov.go:30", after := #[{ on := 22, ground := Go.Ground.data }, { on := 13, ground := Go.Ground.guard }], guard := some (13, true) }) (v := undef) rfl (by kernel_rfl) (by kernel_rfl) (by kernel_rfl) (fun _ _ _ h => h) (Or.inr ⟨by rfl, rfl⟩) (by assumption) ?_
            try simp only [Act.put, List.setIfInBounds_toArray, List.set_cons_zero, List.set_cons_succ]
            refine wpAnyH_take (i := 24) (oi := { dst := some 44, op := Go.Op.pick (Go.Operand.tmp 33) (Go.Operand.tmp 43) (Go.Operand.const (Go.Value.bool false)), type := 4, pos := "prov.go:30", after := #[{ on := 13, ground := Go.Ground.data }, { on := 23, ground := Go.Ground.data }, { on := 10, ground := Go.Ground.guard }], guard := some (10, false) }) (v := undef) rfl (by kernel_rfl) (by kernel_rfl) (by kernel_rfl) (fun _ _ _ h => h) (Or.inr ⟨by rfl, rfl⟩) (by assumption) ?_
            try simp only [Act.put, List.setIfInBounds_toArray, List.set_cons_zero, List.set_cons_succ]
            refine wpAnyH_take (i := 25) (oi := { dst := some 45, op := Go.Op.pick (Go.Operand.tmp 30) (Go.Operand.const (Go.Value.bool true)) (Go.Operand.tmp 44), type := 4, pos := "prov.go:30", after := #[{ on := 10, ground := Go.Ground.data }, { on := 24, ground := Go.Ground.data }], guard := none }) (v := ?_) rfl (by kernel_rfl) (by kernel_rfl) (by kernel_rfl) (fun _ _ _ h => h) (Or.inl ⟨by rfl, ?_⟩) (by assumption) ?_
            rotate_left
            · intro wq hSw; (try dsimp only at hSw); go_simp; (try with_reducible rfl)
            try simp only [Act.put, List.setIfInBounds_toArray, List.set_cons_zero, List.set_cons_succ]
            refine wpAnyH_done (by kernel_rfl) ?_ _
            go_wp2_with fail
            go_ret
            exact ⟨by rw [scaleB_bad hlt HB.out]; rfl, hw2⟩
          | true =>
            have HV1 := Lib.hid hv1
            cases hv2 : validB n2 d2 with
            | false =>
              have HV2 := Lib.hid hv2
              have HB : Hid (goodAt l k = false) := by show _ = _; unfold goodAt; rw [HX.out]; simp [hv2]
              clear hv1 hv2
              go_wp2_with fail
              have hw1 : Below w.heap.size w (wr.alloc (.cells #[.int .i64 n1, .int .i64 d1, .int .i64 n2, .int .i64 d2] 97)) := by (repeat' (first | with_reducible exact Below.refl _ _ | with_reducible assumption | with_reducible refine Below.drew ?_ | with_reducible refine below_drewN ?_ _ | with_reducible refine Below.setCell ?_ ?_ _ | with_reducible refine Below.alloc ?_ ?_ _ | omega | (simp; done) | (simp; omega)))
              have X0 : Hid ((wr.alloc (.cells #[.int .i64 n1, .int .i64 d1, .int .i64 n2, .int .i64 d2] 97)).heap[wr.heap.size]? = some (.cells #[.int .i64 n1, .int .i64 d1, .int .i64 n2, .int .i64 d2] 97 (0, 0))) := blk_new rfl
              have x0 : (wr.alloc (.cells #[.int .i64 n1, .int .i64 d1, .int .i64 n2, .int .i64 d2] 97)).cell? ⟨wr.heap.size, 0, none⟩ = some (.int .i64 n1) := cellH X0 0
              have x1 : (wr.alloc (.cells #[.int .i64 n1, .int .i64 d1, .int .i64 n2, .int .i64 d2] 97)).cell? ⟨wr.heap.size, 1, none⟩ = some (.int .i64 d1) := cellH X0 1
              have x2 : (wr.alloc (.cells #[.int .i64 n1, .int .i64 d1, .int .i64 n2, .int .i64 d2] 97)).cell? ⟨wr.heap.size, 2, none⟩ = some (.int .i64 n2) := cellH X0 2
              have x3 : (wr.alloc (.cells #[.int .i64 n1, .int .i64 d1, .int .i64 n2, .int .i64 d2] 97)).cell? ⟨wr.heap.size, 3, none⟩ = some (.int .i64 d2) := cellH X0 3
              clear k0 k1 k2 k3 X0
              generalize (wr.alloc (.cells #[.int .i64 n1, .int .i64 d1, .int .i64 n2, .int .i64 d2] 97)) = w1 at *
              refine wp_region_held_drew (S := fun w' => w'.cell? ⟨wr.heap.size, 0, none⟩ = some (.int .i64 n1) ∧ w'.cell? ⟨wr.heap.size, 1, none⟩ = some (.int .i64 d1) ∧ w'.cell? ⟨wr.heap.size, 2, none⟩ = some (.int .i64 n2) ∧ w'.cell? ⟨wr.heap.size, 3, none⟩ = some (.int .i64 d2)) (by kernel_rfl) ?_ (fun hH0 => ?_)
              · exact ⟨x0, x1, x2, x3⟩
              refine wpAnyH_take (i := 0) (oi := { dst := some 20, op := Go.Op.fieldAddr 97 (Go.Operand.tmp 4) 0, type := 0, pos := "prov.go:30", after := #[], guard := none }) (v := ?_) rfl (by kernel_rfl) (by kernel_rfl) (by kernel_rfl) (fun _ _ _ h => h) (Or.inl ⟨by rfl, ?_⟩) (by assumption) ?_
              rotate_left
              · intro wq hSw; (try dsimp only at hSw); go_simp; (try with_reducible rfl)
              try simp only [Act.put, List.setIfInBounds_toArray, List.set_cons_zero, List.set_cons_succ]
              refine wpAnyH_take (i := 1) (oi := { dst := some 21, op := Go.Op.load 36 (Go.Operand.tmp 20), type := 36, pos := "prov.go:30", after := #[{ on := 0, ground := Go.Ground.data }], guard := none }) (v := ?_) rfl (by kernel_rfl) (by kernel_rfl) (by kernel_rfl) (fun _ _ _ h => h) (Or.inl ⟨by rfl, ?_⟩) (by assumption) ?_
              rotate_left
              · intro wq hSw; (try dsimp only at hSw); go_simp; (try with_reducible rfl)
              try simp only [Act.put, List.setIfInBounds_toArray, List.set_cons_zero, List.set_cons_succ]
              refine wpAnyH_ready (rs := [2]) (by kernel_rfl) (by simp) ?_
              refine AllReadyH.cons (o := { dst := some 22, op := Go.Op.call { callee := Go.Callee.value (Go.Operand.func 50), args := #[Go.Operand.tmp 21], argTypes := #[36] }, type := 4, pos := "prov.go:30", after := #[{ on := 1, ground := Go.Ground.data }], guard := none }) rfl (fun K hK => ?_) ?_
              rotate_left
              · exact AllReadyH.nil
              go_simp
              refine (valid_is n1 d1 true _ HV1.out i1 i1b i2 i2b).mono ?_
              rintro e w2 ⟨rfl, hb2⟩
              have hw2 : Below w.heap.size w w2 := stepH hw1.drew hb2
              replace x0 : w2.cell? ⟨wr.heap.size, 0, none⟩ = some (.int .i64 n1) := cellOf hb2 (cell_drew x0)
              replace x1 : w2.cell? ⟨wr.heap.size, 1, none⟩ = some (.int .i64 d1) := cellOf hb2 (cell_drew x1)
              replace x2 : w2.cell? ⟨wr.heap.size, 2, none⟩ = some (.int .i64 n2) := cellOf hb2 (cell_drew x2)
              replace x3 : w2.cell? ⟨wr.heap.size, 3, none⟩ = some (.int .i64 d2) := cellOf hb2 (cell_drew x3)
              clear hb2
              go_wp2_with fail
              refine hK.out _ _ ?_ (fun hH1 => ?_)
              · (try dsimp only); exact ⟨x0, x1, x2, x3⟩
              clear hK K
              clear hH0
              try simp only [Act.put, List.setIfInBounds_toArray, List.set_cons_zero, List.set_cons_succ]
              refine wpAnyH_take (i := 3) (oi := { dst := some 23, op := Go.Op.unOp Go.UnOp.not 4 (Go.Operand.tmp 22), type := 4, pos := "prov.go:30", after := #[{ on := 2, ground := Go.Ground.data }], guard := none }) (v := ?_) rfl (by kernel_rfl) (by kernel_rfl) (by kernel_rfl) (fun _ _ _ h => h) (Or.inl ⟨by rfl, ?_⟩) (by assumption) ?_
              rotate_left
              · intro wq hSw; (try dsimp only at hSw); go_simp; (try with_reducible rfl)
              try simp only [Act.put, List.setIfInBounds_toArray, List.set_cons_zero, List.set_cons_succ]
              refine wpAnyH_take (i := 4) (oi := { dst := some 24, op := Go.Op.move (Go.Operand.tmp 23), type := 4, pos := "prov.go:30", after := #[{ on := 3, ground := Go.Ground.data }, { on := 2, ground := Go.Ground.chain }], guard := none }) (v := ?_) rfl (by kernel_rfl) (by kernel_rfl) (by kernel_rfl) (fun _ _ _ h => h) (Or.inl ⟨by rfl, ?_⟩) (by assumption) ?_
              rotate_left
              · intro wq hSw; (try dsimp only at hSw); go_simp; (try with_reducible rfl)
              try simp only [Act.put, List.setIfInBounds_toArray, List.set_cons_zero, List.set_cons_succ]
              refine wpAnyH_take (i := 5) (oi := { dst := some 25, op := Go.Op.fieldAddr 97 (Go.Operand.tmp 4) 1, type := 0, pos := "prov.go:30", after := #[{ on := 4, ground := Go.Ground.guard }], guard := some (4, false) }) (v := ?_) rfl (by kernel_rfl) (by kernel_rfl) (by kernel_rfl) (fun _ _ _ h => h) (Or.inl ⟨by rfl, ?_⟩) (by assumption) ?_
              rotate_left
              · intro wq hSw; (try dsimp only at hSw); go_simp; (try with_reducible rfl)
              try simp only [Act.put, List.setIfInBounds_toArray, List.set_cons_zero, List.set_cons_succ]
              refine wpAnyH_take (i := 6) (oi := { dst := some 26, op := Go.Op.load 36 (Go.Operand.tmp 25), type := 36, pos := "prov.go:30", after := #[{ on := 5, ground := Go.Ground.data }, { on := 4, ground := Go.Ground.guard }], guard := some (4, false) }) (v := ?_) rfl (by kernel_rfl) (by kernel_rfl) (by kernel_rfl) (fun _ _ _ h => h) (Or.inl ⟨by rfl, ?_⟩) (by assumption) ?_
              rotate_left
              · intro wq hSw; (try dsimp only at hSw); go_simp; (try with_reducible rfl)
              try simp only [Act.put, List.setIfInBounds_toArray, List.set_cons_zero, List.set_cons_succ]
              refine wpAnyH_ready (rs := [7]) (by kernel_rfl) (by simp) ?_
              refine AllReadyH.cons (o := { dst := some 27, op := Go.Op.call { callee := Go.Callee.value (Go.Operand.func 50), args := #[Go.Operand.tmp 26], argTypes := #[36] }, type := 4, pos := "prov.go:30", after := #[{ on := 6, ground := Go.Ground.data }, { on := 4, ground := Go.Ground.chain }, { on := 4, ground := Go.Ground.guard }], guard := some (4, false) }) rfl (fun K hK => ?_) ?_
              rotate_left
              · exact AllReadyH.nil
              go_simp
              refine (valid_is n2 d2 false _ HV2.out i3 i3b i4 i4b).mono ?_
              rintro e w3 ⟨rfl, hb3⟩
              have hw3 : Below w.heap.size w w3 := stepH hw2 hb3
              replace x0 : w3.cell? ⟨wr.heap.size, 0, none⟩ = some (.int .i64 n1) := cellOf hb3 x0
              replace x1 : w3.cell? ⟨wr.heap.size, 1, none⟩ = some (.int .i64 d1) := cellOf hb3 x1
              replace x2 : w3.cell? ⟨wr.heap.size, 2, none⟩ = some (.int .i64 n2) := cellOf hb3 x2
              replace x3 : w3.cell? ⟨wr.heap.size, 3, none⟩ = some (.int .i64 d2) := cellOf hb3 x3
              clear hb3
              go_wp2_with fail
              refine hK.out _ _ ?_ (fun hH2 => ?_)
              · (try dsimp only); exact ⟨x0, x1, x2, x3⟩
              clear hK K
              clear hH1
              try simp only [Act.put, List.setIfInBounds_toArray, List.set_cons_zero, List.set_cons_succ]
              refine wpAnyH_take (i := 8) (oi := { dst := some 28, op := Go.Op.unOp Go.UnOp.not 4 (Go.Operand.tmp 27), type := 4, pos := "prov.go:30", after := #[{ on := 7, ground := Go.Ground.data }, { on := 4, ground := Go.Ground.guard }], guard := some (4, false) }) (v := ?_) rfl (by kernel_rfl) (by kernel_rfl) (by kernel_rfl) (fun _ _ _ h => h) (Or.inl ⟨by rfl, ?_⟩) (by assumption) ?_
              rotate_left
              · intro wq hSw; (try dsimp only at hSw); go_simp; (try with_reducible rfl)
              try simp only [Act.put, List.setIfInBounds_toArray, List.set_cons_zero, List.set_cons_succ]
              refine wpAnyH_take (i := 9) (oi := { dst := some 29, op := Go.Op.pick (Go.Operand.tmp 24) (Go.Operand.const (Go.Value.bool true)) (Go.Operand.tmp 28), type := 4, pos := "prov.go:30", after := #[{ on := 4, ground := Go.Ground.data }, { on := 8, ground := Go.Ground.data }], guard := none }) (v := ?_) rfl (by kernel_rfl) (by kernel_rfl) (by kernel_rfl) (fun _ _ _ h => h) (Or.inl ⟨by rfl, ?_⟩) (by assumption) ?_
              rotate_left
              · intro wq hSw; (try dsimp only at hSw); go_simp; (try with_reducible rfl)
              try simp only [Act.put, List.setIfInBounds_toArray, List.set_cons_zero, List.set_cons_succ]
              refine wpAnyH_take (i := 10) (oi := { dst := some 30, op := Go.Op.move (Go.Operand.tmp 29), type := 4, pos := "prov.go:30", after := #[{ on := 9, ground := Go.Ground.data }, { on := 7, ground := Go.Ground.chain }], guard := none }) (v := ?_) rfl (by kernel_rfl) (by kernel_rfl) (by kernel_rfl) (fun _ _ _ h => h) (Or.inl ⟨by rfl, ?_⟩) (by assumption) ?_
              rotate_left
              · intro wq hSw; (try dsimp only at hSw); go_simp; (try with_reducible rfl)
              try simp only [Act.put, List.setIfInBounds_toArray, List.set_cons_zero, List.set_cons_succ]
              refine wpAnyH_take (i := 11) (oi := { dst := some 31, op := Go.Op.move (Go.Operand.tmp 3), type := 3, pos := "prov.go:30", after := #[{ on := 10, ground := Go.Ground.guard }], guard := some (10, false) }) (v := undef) rfl (by kernel_rfl) (by kernel_rfl) (by kernel_rfl) (fun _ _ _ h => h) (Or.inr ⟨by rfl, rfl⟩) (by assumption) ?_
              try simp only [Act.put, List.setIfInBounds_toArray, List.set_cons_zero, List.set_cons_succ]
              refine wpAnyH_take (i := 12) (oi := { dst := some 32, op := Go.Op.binOp Go.BinOp.gtr 3 (Go.Operand.tmp 31) (Go.Operand.const (Go.Value.int Go.IntKind.i64 0)) 3, type := 4, pos := "prov.go:30", after := #[{ on := 11, ground := Go.Ground.data }, { on := 10, ground := Go.Ground.guard }], guard := some (10, false) }) (v := undef) rfl (by kernel_rfl) (by kernel_rfl) (by kernel_rfl) (fun _ _ _ h => h) (Or.inr ⟨by rfl, rfl⟩) (by assumption) ?_
              try simp only [Act.put, List.setIfInBounds_toArray, List.set_cons_zero, List.set_cons_succ]
              refine wpAnyH_take (i := 13) (oi := { dst := some 33, op := Go.Op.move (Go.Operand.tmp 32), type := 4, pos := "prov.go:30", after := #[{ on := 12, ground := Go.Ground.data }, { on := 10, ground := Go.Ground.chain }, { on := 10, ground := Go.Ground.guard }], guard := some (10, false) }) (v := undef) rfl (by kernel_rfl) (by kernel_rfl) (by kernel_rfl) (fun _ _ _ h => h) (Or.inr ⟨by rfl, rfl⟩) (by assumption) ?_
              try simp only [Act.put, List.setIfInBounds_toArray, List.set_cons_zero, List.set_cons_succ]
              refine wpAnyH_take (i := 14) (oi := { dst := some 34, op := Go.Op.fieldAddr 97 (Go.Operand.tmp 4) 0, type := 0, pos := "prov.go:30", after := #[{ on := 13, ground := Go.Ground.guard }], guard := some (13, true) }) (v := undef) rfl (by kernel_rfl) (by kernel_rfl) (by kernel_rfl) (fun _ _ _ h => h) (Or.inr ⟨by rfl, rfl⟩) (by assumption) ?_
              try simp only [Act.put, List.setIfInBounds_toArray, List.set_cons_zero, List.set_cons_succ]
              refine wpAnyH_take (i := 15) (oi := { dst := some 35, op := Go.Op.load 36 (Go.Operand.tmp 34), type := 36, pos := "prov.go:30", after := #[{ on := 14, ground := Go.Ground.data }, { on := 13, ground := Go.Ground.guard }], guard := some (13, true) }) (v := undef) rfl (by kernel_rfl) (by kernel_rfl) (by kernel_rfl) (fun _ _ _ h => h) (Or.inr ⟨by rfl, rfl⟩) (by assumption) ?_
              try simp only [Act.put, List.setIfInBounds_toArray, List.set_cons_zero, List.set_cons_succ]
              refine wpAnyH_take (i := 16) (oi := { dst := some 36, op := Go.Op.move (Go.Operand.tmp 0), type := 37, pos := "prov.go:30", after := #[{ on := 13, ground := Go.Ground.guard }], guard := some (13, true) }) (v := undef) rfl (by kernel_rfl) (by kernel_rfl) (by kernel_rfl) (fun _ _ _ h => h) (Or.inr ⟨by rfl, rfl⟩) (by assumption) ?_
              try simp only [Act.put, List.setIfInBounds_toArray, List.set_cons_zero, List.set_cons_succ]
              refine wpAnyH_take (i := 17) (oi := { dst := some 37, op := Go.Op.move (Go.Operand.tmp 3), type := 3, pos := "prov.go:30", after := #[{ on := 13, ground := Go.Ground.guard }], guard := some (13, true) }) (v := undef) rfl (by kernel_rfl) (by kernel_rfl) (by kernel_rfl) (fun _ _ _ h => h) (Or.inr ⟨by rfl, rfl⟩) (by assumption) ?_
              try simp only [Act.put, List.setIfInBounds_toArray, List.set_cons_zero, List.set_cons_succ]
              refine wpAnyH_take (i := 18) (oi := { dst := some 38, op := Go.Op.binOp Go.BinOp.sub 3 (Go.Operand.tmp 37) (Go.Operand.const (Go.Value.int Go.IntKind.i64 1)) 3, type := 3, pos := "prov.go:30", after := #[{ on := 17, ground := Go.Ground.data }, { on := 13, ground := Go.Ground.guard }], guard := some (13, true) }) (v := undef) rfl (by kernel_rfl) (by kernel_rfl) (by kernel_rfl) (fun _ _ _ h => h) (Or.inr ⟨by rfl, rfl⟩) (by assumption) ?_
              try simp only [Act.put, List.setIfInBounds_toArray, List.set_cons_zero, List.set_cons_succ]
              refine wpAnyH_take (i := 19) (oi := { dst := some 39, op := Go.Op.indexAddr 37 (Go.Operand.tmp 36) (Go.Operand.tmp 38), type := 0, pos := "prov.go:30", after := #[{ on := 16, ground := Go.Ground.data }, { on := 18, ground := Go.Ground.data }, { on := 13, ground := Go.Ground.guard }], guard := some (13, true) }) (v := undef) rfl (by kernel_rfl) (by kernel_rfl) (by kernel_rfl) (fun _ _ _ h => h) (Or.inr ⟨by rfl, rfl⟩) (by assumption) ?_
              try simp only [Act.put, List.setIfInBounds_toArray, List.set_cons_zero, List.set_cons_succ]
              refine wpAnyH_take (i := 20) (oi := { dst := some 40, op := Go.Op.fieldAddr 97 (Go.Operand.tmp 39) 0, type := 0, pos := "prov.go:30", after := #[{ on := 19, ground := Go.Ground.data }, { on := 13, ground := Go.Ground.guard }], guard := some (13, true) }) (v := undef) rfl (by kernel_rfl) (by kernel_rfl) (by kernel_rfl) (fun _ _ _ h => h) (Or.inr ⟨by rfl, rfl⟩) (by assumption) ?_
              try simp only [Act.put, List.setIfInBounds_toArray, List.set_cons_zero, List.set_cons_succ]
              refine wpAnyH_take (i := 21) (oi := { dst := some 41, op := Go.Op.load 36 (Go.Operand.tmp 40), type := 36, pos := "prov.go:30", after := #[{ on := 20, ground := Go.Ground.data }, { on := 13, ground := Go.Ground.guard }], guard := some (13, true) }) (v := undef) rfl (by kernel_rfl) (by kernel_rfl) (by kernel_rfl) (fun _ _ _ h => h) (Or.inr ⟨by rfl, rfl⟩) (by assumption) ?_
              try simp only [Act.put, List.setIfInBounds_toArray, List.set_cons_zero, List.set_cons_succ]
              refine wpAnyH_take (i := 22) (oi := { dst := some 42, op := Go.Op.call { callee := Go.Callee.value (Go.Operand.func 65), args := #[Go.Operand.tmp 35, Go.Operand.tmp 41], argTypes := #[36, 36] }, type := 3, pos := "prov.go:30", after := #[{ on := 15, ground := Go.Ground.data }, { on := 21, ground := Go.Ground.data }, { on := 13, ground := Go.Ground.chain }, { on := 13, ground := Go.Ground.guard }], guard := some (13, true) }) (v := undef) rfl (by kernel_rfl) (by kernel_rfl) (by kernel_rfl) (fun _ _ _ h => h) (Or.inr ⟨by rfl, rfl⟩) (by assumption) ?_
              try simp only [Act.put, List.setIfInBounds_toArray, List.set_cons_zero, List.set_cons_succ]
              refine wpAnyH_take (i := 23) (oi := { dst := some 43, op := Go.Op.binOp Go.BinOp.leq 3 (Go.Operand.tmp 42) (Go.Operand.const (Go.Value.int Go.IntKind.i64 0)) 3, type := 4, pos := "prov.go:30", after := #[{ on := 22, ground := Go.Ground.data }, { on := 13, ground := Go.Ground.guard }], guard := some (13, true) }) (v := undef) rfl (by kernel_rfl) (by kernel_rfl) (by kernel_rfl) (fun _ _ _ h => h) (Or.inr ⟨by rfl, rfl⟩) (by assumption) ?_
              try simp only [Act.put, List.setIfInBounds_toArray, List.set_cons_zero, List.set_cons_succ]
              refine wpAnyH_take (i := 24) (oi := { dst := some 44, op := Go.Op.pick (Go.Operand.tmp 33) (Go.Operand.tmp 43) (Go.Operand.const (Go.Value.bool false)), type := 4, pos := "prov.go:30", after := #[{ on := 13, ground := Go.Ground.data }, { on := 23, ground := Go.Ground.data }, { on := 10, ground := Go.Ground.guard }], guard := some (10, false) }) (v := undef) rfl (by kernel_rfl) (by kernel_rfl) (by kernel_rfl) (fun _ _ _ h => h) (Or.inr ⟨by rfl, rfl⟩) (by assumption) ?_
              try simp only [Act.put, List.setIfInBounds_toArray, List.set_cons_zero, List.set_cons_succ]
              refine wpAnyH_take (i := 25) (oi := { dst := some 45, op := Go.Op.pick (Go.Operand.tmp 30) (Go.Operand.const (Go.Value.bool true)) (Go.Operand.tmp 44), type := 4, pos := "prov.go:30", after := #[{ on := 10, ground := Go.Ground.data }, { on := 24, ground := Go.Ground.data }], guard := none }) (v := ?_) rfl (by kernel_rfl) (by kernel_rfl) (by kernel_rfl) (fun _ _ _ h => h) (Or.inl ⟨by rfl, ?_⟩) (by assumption) ?_
              rotate_left
              · intro wq hSw; (try dsimp only at hSw); go_simp; (try with_reducible rfl)
              try simp only [Act.put, List.setIfInBounds_toArray, List.set_cons_zero, List.set_cons_succ]
              refine wpAnyH_done (by kernel_rfl) ?_ _
              go_wp2_with fail
              go_ret
              exact ⟨by rw [scaleB_bad hlt HB.out]; rfl, hw3⟩
            | true =>
              have HV2 := Lib.hid hv2
              cases k with
              | zero =>
                have HG : Hid (goodAt l 0 = true) := by show _ = _; unfold goodAt; rw [HX.out]; simp [hv1, hv2]
                clear hv1 hv2
                have q0 : decide ((0 : Int) < ((0 : Nat) : Int)) = false := by decide
                simp only [Nat.zero_mul, Nat.add_zero] at k0 k1 k2 k3
                go_wp2_with fail
                have hw1 : Below w.heap.size w (wr.alloc (.cells #[.int .i64 n1, .int .i64 d1, .int .i64 n2, .int .i64 d2] 97)) := by (repeat' (first | with_reducible exact Below.refl _ _ | with_reducible assumption | with_reducible refine Below.drew ?_ | with_reducible refine below_drewN ?_ _ | with_reducible refine Below.setCell ?_ ?_ _ | with_reducible refine Below.alloc ?_ ?_ _ | omega | (simp; done) | (simp; omega)))
                have X0 : Hid ((wr.alloc (.cells #[.int .i64 n1, .int .i64 d1, .int .i64 n2, .int .i64 d2] 97)).heap[wr.heap.size]? = some (.cells #[.int .i64 n1, .int .i64 d1, .int .i64 n2, .int .i64 d2] 97 (0, 0))) := blk_new rfl
                have x0 : (wr.alloc (.cells #[.int .i64 n1, .int .i64 d1, .int .i64 n2, .int .i64 d2] 97)).cell? ⟨wr.heap.size, 0, none⟩ = some (.int .i64 n1) := cellH X0 0
                have x1 : (wr.alloc (.cells #[.int .i64 n1, .int .i64 d1, .int .i64 n2, .int .i64 d2] 97)).cell? ⟨wr.heap.size, 1, none⟩ = some (.int .i64 d1) := cellH X0 1
                have x2 : (wr.alloc (.cells #[.int .i64 n1, .int .i64 d1, .int .i64 n2, .int .i64 d2] 97)).cell? ⟨wr.heap.size, 2, none⟩ = some (.int .i64 n2) := cellH X0 2
                have x3 : (wr.alloc (.cells #[.int .i64 n1, .int .i64 d1, .int .i64 n2, .int .i64 d2] 97)).cell? ⟨wr.heap.size, 3, none⟩ = some (.int .i64 d2) := cellH X0 3
                clear k0 k1 k2 k3 X0
                generalize (wr.alloc (.cells #[.int .i64 n1, .int .i64 d1, .int .i64 n2, .int .i64 d2] 97)) = w1 at *
                refine wp_region_held_drew (S := fun w' => w'.cell? ⟨wr.heap.size, 0, none⟩ = some (.int .i64 n1) ∧ w'.cell? ⟨wr.heap.size, 1, none⟩ = some (.int .i64 d1) ∧ w'.cell? ⟨wr.heap.size, 2, none⟩ = some (.int .i64 n2) ∧ w'.cell? ⟨wr.heap.size, 3, none⟩ = some (.int .i64 d2)) (by kernel_rfl) ?_ (fun hH0 => ?_)
                · exact ⟨x0, x1, x2, x3⟩
                refine wpAnyH_take (i := 0) (oi := { dst := some 20, op := Go.Op.fieldAddr 97 (Go.Operand.tmp 4) 0, type := 0, pos := "prov.go:30", after := #[], guard := none }) (v := ?_) rfl (by kernel_rfl) (by kernel_rfl) (by kernel_rfl) (fun _ _ _ h => h) (Or.inl ⟨by rfl, ?_⟩) (by assumption) ?_
                rotate_left
                · intro wq hSw; (try dsimp only at hSw); go_simp; (try with_reducible rfl)
                try simp only [Act.put, List.setIfInBounds_toArray, List.set_cons_zero, List.set_cons_succ]
                refine wpAnyH_take (i := 1) (oi := { dst := some 21, op := Go.Op.load 36 (Go.Operand.tmp 20), type := 36, pos := "prov.go:30", after := #[{ on := 0, ground := Go.Ground.data }], guard := none }) (v := ?_) rfl (by kernel_rfl) (by kernel_rfl) (by kernel_rfl) (fun _ _ _ h => h) (Or.inl ⟨by rfl, ?_⟩) (by assumption) ?_
                rotate_left
                · intro wq hSw; (try dsimp only at hSw); go_simp; (try with_reducible rfl)
                try simp only [Act.put, List.setIfInBounds_toArray, List.set_cons_zero, List.set_cons_succ]
                refine wpAnyH_ready (rs := [2]) (by kernel_rfl) (by simp) ?_
                refine AllReadyH.cons (o := { dst := some 22, op := Go.Op.call { callee := Go.Callee.value (Go.Operand.func 50), args := #[Go.Operand.tmp 21], argTypes := #[36] }, type := 4, pos := "prov.go:30", after := #[{ on := 1, ground := Go.Ground.data }], guard := none }) rfl (fun K hK => ?_) ?_
                rotate_left
                · exact AllReadyH.nil
                go_simp
                refine (valid_is n1 d1 true _ HV1.out i1 i1b i2 i2b).mono ?_
                rintro e w2 ⟨rfl, hb2⟩
                have hw2 : Below w.heap.size w w2 := stepH hw1.drew hb2
                replace x0 : w2.cell? ⟨wr.heap.size, 0, none⟩ = some (.int .i64 n1) := cellOf hb2 (cell_drew x0)
                replace x1 : w2.cell? ⟨wr.heap.size, 1, none⟩ = some (.int .i64 d1) := cellOf hb2 (cell_drew x1)
                replace x2 : w2.cell? ⟨wr.heap.size, 2, none⟩ = some (.int .i64 n2) := cellOf hb2 (cell_drew x2)
                replace x3 : w2.cell? ⟨wr.heap.size, 3, none⟩ = some (.int .i64 d2) := cellOf hb2 (cell_drew x3)
                clear hb2
                go_wp2_with fail
                refine hK.out _ _ ?_ (fun hH1 => ?_)
                · (try dsimp only); exact ⟨x0, x1, x2, x3⟩
                clear hK K
                clear hH0
                try simp only [Act.put, List.setIfInBounds_toArray, List.set_cons_zero, List.set_cons_succ]
                refine wpAnyH_take (i := 3) (oi := { dst := some 23, op := Go.Op.unOp Go.UnOp.not 4 (Go.Operand.tmp 22), type := 4, pos := "prov.go:30", after := #[{ on := 2, ground := Go.Ground.data }], guard := none }) (v := ?_) rfl (by kernel_rfl) (by kernel_rfl) (by kernel_rfl) (fun _ _ _ h => h) (Or.inl ⟨by rfl, ?_⟩) (by assumption) ?_
                rotate_left
                · intro wq hSw; (try dsimp only at hSw); go_simp; (try with_reducible rfl)
                try simp only [Act.put, List.setIfInBounds_toArray, List.set_cons_zero, List.set_cons_succ]
                refine wpAnyH_take (i := 4) (oi := { dst := some 24, op := Go.Op.move (Go.Operand.tmp 23), type := 4, pos := "prov.go:30", after := #[{ on := 3, ground := Go.Ground.data }, { on := 2, ground := Go.Ground.chain }], guard := none }) (v := ?_) rfl (by kernel_rfl) (by kernel_rfl) (by kernel_rfl) (fun _ _ _ h => h) (Or.inl ⟨by rfl, ?_⟩) (by assumption) ?_
                rotate_left
                · intro wq hSw; (try dsimp only at hSw); go_simp; (try with_reducible rfl)
                try simp only [Act.put, List.setIfInBounds_toArray, List.set_cons_zero, List.set_cons_succ]
                refine wpAnyH_take (i := 5) (oi := { dst := some 25, op := Go.Op.fieldAddr 97 (Go.Operand.tmp 4) 1, type := 0, pos := "prov.go:30", after := #[{ on := 4, ground := Go.Ground.guard }], guard := some (4, false) }) (v := ?_) rfl (by kernel_rfl) (by kernel_rfl) (by kernel_rfl) (fun _ _ _ h => h) (Or.inl ⟨by rfl, ?_⟩) (by assumption) ?_
                rotate_left
                · intro wq hSw; (try dsimp only at hSw); go_simp; (try with_reducible rfl)
                try simp only [Act.put, List.setIfInBounds_toArray, List.set_cons_zero, List.set_cons_succ]
                refine wpAnyH_take (i := 6) (oi := { dst := some 26, op := Go.Op.load 36 (Go.Operand.tmp 25), type := 36, pos := "prov.go:30", after := #[{ on := 5, ground := Go.Ground.data }, { on := 4, ground := Go.Ground.guard }], guard := some (4, false) }) (v := ?_) rfl (by kernel_rfl) (by kernel_rfl) (by kernel_rfl) (fun _ _ _ h => h) (Or.inl ⟨by rfl, ?_⟩) (by assumption) ?_
                rotate_left
                · intro wq hSw; (try dsimp only at hSw); go_simp; (try with_reducible rfl)
                try simp only [Act.put, List.setIfInBounds_toArray, List.set_cons_zero, List.set_cons_succ]
                refine wpAnyH_ready (rs := [7]) (by kernel_rfl) (by simp) ?_
                refine AllReadyH.cons (o := { dst := some 27, op := Go.Op.call { callee := Go.Callee.value (Go.Operand.func 50), args := #[Go.Operand.tmp 26], argTypes := #[36] }, type := 4, pos := "prov.go:30", after := #[{ on := 6, ground := Go.Ground.data }, { on := 4, ground := Go.Ground.chain }, { on := 4, ground := Go.Ground.guard }], guard := some (4, false) }) rfl (fun K hK => ?_) ?_
                rotate_left
                · exact AllReadyH.nil
                go_simp
                refine (valid_is n2 d2 true _ HV2.out i3 i3b i4 i4b).mono ?_
                rintro e w3 ⟨rfl, hb3⟩
                have hw3 : Below w.heap.size w w3 := stepH hw2 hb3
                replace x0 : w3.cell? ⟨wr.heap.size, 0, none⟩ = some (.int .i64 n1) := cellOf hb3 x0
                replace x1 : w3.cell? ⟨wr.heap.size, 1, none⟩ = some (.int .i64 d1) := cellOf hb3 x1
                replace x2 : w3.cell? ⟨wr.heap.size, 2, none⟩ = some (.int .i64 n2) := cellOf hb3 x2
                replace x3 : w3.cell? ⟨wr.heap.size, 3, none⟩ = some (.int .i64 d2) := cellOf hb3 x3
                clear hb3
                go_wp2_with fail
                refine hK.out _ _ ?_ (fun hH2 => ?_)
                · (try dsimp only); exact ⟨x0, x1, x2, x3⟩
                clear hK K
                clear hH1
                try simp only [Act.put, List.setIfInBounds_toArray, List.set_cons_zero, List.set_cons_succ]
                refine wpAnyH_take (i := 8) (oi := { dst := some 28, op := Go.Op.unOp Go.UnOp.not 4 (Go.Operand.tmp 27), type := 4, pos := "prov.go:30", after := #[{ on := 7, ground := Go.Ground.data }, { on := 4, ground := Go.Ground.guard }], guard := some (4, false) }) (v := ?_) rfl (by kernel_rfl) (by kernel_rfl) (by kernel_rfl) (fun _ _ _ h => h) (Or.inl ⟨by rfl, ?_⟩) (by assumption) ?_
                rotate_left
                · intro wq hSw; (try dsimp only at hSw); go_simp; (try with_reducible rfl)
                try simp only [Act.put, List.setIfInBounds_toArray, List.set_cons_zero, List.set_cons_succ]
                refine wpAnyH_take (i := 9) (oi := { dst := some 29, op := Go.Op.pick (Go.Operand.tmp 24) (Go.Operand.const (Go.Value.bool true)) (Go.Operand.tmp 28), type := 4, pos := "prov.go:30", after := #[{ on := 4, ground := Go.Ground.data }, { on := 8, ground := Go.Ground.data }], guard := none }) (v := ?_) rfl (by kernel_rfl) (by kernel_rfl) (by kernel_rfl) (fun _ _ _ h => h) (Or.inl ⟨by rfl, ?_⟩) (by assumption) ?_
                rotate_left
                · intro wq hSw; (try dsimp only at hSw); go_simp; (try with_reducible rfl)
                try simp only [Act.put, List.setIfInBounds_toArray, List.set_cons_zero, List.set_cons_succ]
                refine wpAnyH_take (i := 10) (oi := { dst := some 30, op := Go.Op.move (Go.Operand.tmp 29), type := 4, pos := "prov.go:30", after := #[{ on := 9, ground := Go.Ground.data }, { on := 7, ground := Go.Ground.chain }], guard := none }) (v := ?_) rfl (by kernel_rfl) (by kernel_rfl) (by kernel_rfl) (fun _ _ _ h => h) (Or.inl ⟨by rfl, ?_⟩) (by assumption) ?_
                rotate_left
                · intro wq hSw; (try dsimp only at hSw); go_simp; (try with_reducible rfl)
                try simp only [Act.put, List.setIfInBounds_toArray, List.set_cons_zero, List.set_cons_succ]
                refine wpAnyH_take (i := 11) (oi := { dst := some 31, op := Go.Op.move (Go.Operand.tmp 3), type := 3, pos := "prov.go:30", after := #[{ on := 10, ground := Go.Ground.guard }], guard := some (10, false) }) (v := ?_) rfl (by kernel_rfl) (by kernel_rfl) (by kernel_rfl) (fun _ _ _ h => h) (Or.inl ⟨by rfl, ?_⟩) (by assumption) ?_
                rotate_left
                · intro wq hSw; (try dsimp only at hSw); go_simp; (try with_reducible rfl)
                try simp only [Act.put, List.setIfInBounds_toArray, List.set_cons_zero, List.set_cons_succ]
                refine wpAnyH_take (i := 12) (oi := { dst := some 32, op := Go.Op.binOp Go.BinOp.gtr 3 (Go.Operand.tmp 31) (Go.Operand.const (Go.Value.int Go.IntKind.i64 0)) 3, type := 4, pos := "prov.go:30", after := #[{ on := 11, ground := Go.Ground.data }, { on := 10, ground := Go.Ground.guard }], guard := some (10, false) }) (v := ?_) rfl (by kernel_rfl) (by kernel_rfl) (by kernel_rfl) (fun _ _ _ h => h) (Or.inl ⟨by rfl, ?_⟩) (by assumption) ?_
                rotate_left
                · intro wq hSw; (try dsimp only at hSw); go_simp; (try with_reducible rfl)
                try simp only [Act.put, List.setIfInBounds_toArray, List.set_cons_zero, List.set_cons_succ]
                refine wpAnyH_take (i := 13) (oi := { dst := some 33, op := Go.Op.move (Go.Operand.tmp 32), type := 4, pos := "prov.go:30", after := #[{ on := 12, ground := Go.Ground.data }, { on := 10, ground := Go.Ground.chain }, { on := 10, ground := Go.Ground.guard }], guard := some (10, false) }) (v := ?_) rfl (by kernel_rfl) (by kernel_rfl) (by kernel_rfl) (fun _ _ _ h => h) (Or.inl ⟨by rfl, ?_⟩) (by assumption) ?_
                rotate_left
                · intro wq hSw; (try dsimp only at hSw); go_simp; (try with_reducible rfl)
                try simp only [Act.put, List.setIfInBounds_toArray, List.set_cons_zero, List.set_cons_succ]
                refine wpAnyH_take (i := 14) (oi := { dst := some 34, op := Go.Op.fieldAddr 97 (Go.Operand.tmp 4) 0, type := 0, pos := "prov.go:30", after := #[{ on := 13, ground := Go.Ground.guard }], guard := some (13, true) }) (v := undef) rfl (by kernel_rfl) (by kernel_rfl) (by kernel_rfl) (fun _ _ _ h => h) (Or.inr ⟨by rfl, rfl⟩) (by assumption) ?_
                try simp only [Act.put, List.setIfInBounds_toArray, List.set_cons_zero, List.set_cons_succ]
                refine wpAnyH_take (i := 15) (oi := { dst := some 35, op := Go.Op.load 36 (Go.Operand.tmp 34), type := 36, pos := "prov.go:30", after := #[{ on := 14, ground := Go.Ground.data }, { on := 13, ground := Go.Ground.guard }], guard := some (13, true) }) (v := undef) rfl (by kernel_rfl) (by kernel_rfl) (by kernel_rfl) (fun _ _ _ h => h) (Or.inr ⟨by rfl, rfl⟩) (by assumption) ?_
                try simp only [Act.put, List.setIfInBounds_toArray, List.set_cons_zero, List.set_cons_succ]
                refine wpAnyH_take (i := 16) (oi := { dst := some 36, op := Go.Op.move (Go.Operand.tmp 0), type := 37, pos := "prov.go:30", after := #[{ on := 13, ground := Go.Ground.guard }], guard := some (13, true) }) (v := undef) rfl (by kernel_rfl) (by kernel_rfl) (by kernel_rfl) (fun _ _ _ h => h) (Or.inr ⟨by rfl, rfl⟩) (by assumption) ?_
                try simp only [Act.put, List.setIfInBounds_toArray, List.set_cons_zero, List.set_cons_succ]
                refine wpAnyH_take (i := 17) (oi := { dst := some 37, op := Go.Op.move (Go.Operand.tmp 3), type := 3, pos := "prov.go:30", after := #[{ on := 13, ground := Go.Ground.guard }], guard := some (13, true) }) (v := undef) rfl (by kernel_rfl) (by kernel_rfl) (by kernel_rfl) (fun _ _ _ h => h) (Or.inr ⟨by rfl, rfl⟩) (by assumption) ?_
                try simp only [Act.put, List.setIfInBounds_toArray, List.set_cons_zero, List.set_cons_succ]
                refine wpAnyH_take (i := 18) (oi := { dst := some 38, op := Go.Op.binOp Go.BinOp.sub 3 (Go.Operand.tmp 37) (Go.Operand.const (Go.Value.int Go.IntKind.i64 1)) 3, type := 3, pos := "prov.go:30", after := #[{ on := 17, ground := Go.Ground.data }, { on := 13, ground := Go.Ground.guard }], guard := some (13, true) }) (v := undef) rfl (by kernel_rfl) (by kernel_rfl) (by kernel_rfl) (fun _ _ _ h => h) (Or.inr ⟨by rfl, rfl⟩) (by assumption) ?_
                try simp only [Act.put, List.setIfInBounds_toArray, List.set_cons_zero, List.set_cons_succ]
                refine wpAnyH_take (i := 19) (oi := { dst := some 39, op := Go.Op.indexAddr 37 (Go.Operand.tmp 36) (Go.Operand.tmp 38), type := 0, pos := "prov.go:30", after := #[{ on := 16, ground := Go.Ground.data }, { on := 18, ground := Go.Ground.data }, { on := 13, ground := Go.Ground.guard }], guard := some (13, true) }) (v := undef) rfl (by kernel_rfl) (by kernel_rfl) (by kernel_rfl) (fun _ _ _ h => h) (Or.inr ⟨by rfl, rfl⟩) (by assumption) ?_
                try simp only [Act.put, List.setIfInBounds_toArray, List.set_cons_zero, List.set_cons_succ]
                refine wpAnyH_take (i := 20) (oi := { dst := some 40, op := Go.Op.fieldAddr 97 (Go.Operand.tmp 39) 0, type := 0, pos := "prov.go:30", after := #[{ on := 19, ground := Go.Ground.data }, { on := 13, ground := Go.Ground.guard }], guard := some (13, true) }) (v := undef) rfl (by kernel_rfl) (by kernel_rfl) (by kernel_rfl) (fun _ _ _ h => h) (Or.inr ⟨by rfl, rfl⟩) (by assumption) ?_
                try simp only [Act.put, List.setIfInBounds_toArray, List.set_cons_zero, List.set_cons_succ]
                refine wpAnyH_take (i := 21) (oi := { dst := some 41, op := Go.Op.load 36 (Go.Operand.tmp 40), type := 36, pos := "prov.go:30", after := #[{ on := 20, ground := Go.Ground.data }, { on := 13, ground := Go.Ground.guard }], guard := some (13, true) }) (v := undef) rfl (by kernel_rfl) (by kernel_rfl) (by kernel_rfl) (fun _ _ _ h => h) (Or.inr ⟨by rfl, rfl⟩) (by assumption) ?_
                try simp only [Act.put, List.setIfInBounds_toArray, List.set_cons_zero, List.set_cons_succ]
                refine wpAnyH_take (i := 22) (oi := { dst := some 42, op := Go.Op.call { callee := Go.Callee.value (Go.Operand.func 65), args := #[Go.Operand.tmp 35, Go.Operand.tmp 41], argTypes := #[36, 36] }, type := 3, pos := "prov.go:30", after := #[{ on := 15, ground := Go.Ground.data }, { on := 21, ground := Go.Ground.data }, { on := 13, ground := Go.Ground.chain }, { on := 13, ground := Go.Ground.guard }], guard := some (13, true) }) (v := undef) rfl (by kernel_rfl) (by kernel_rfl) (by kernel_rfl) (fun _ _ _ h => h) (Or.inr ⟨by rfl, rfl⟩) (by assumption) ?_
                try simp only [Act.put, List.setIfInBounds_toArray, List.set_cons_zero, List.set_cons_succ]
                refine wpAnyH_take (i := 23) (oi := { dst := some 43, op := Go.Op.binOp Go.BinOp.leq 3 (Go.Operand.tmp 42) (Go.Operand.const (Go.Value.int Go.IntKind.i64 0)) 3, type := 4, pos := "prov.go:30", after := #[{ on := 22, ground := Go.Ground.data }, { on := 13, ground := Go.Ground.guard }], guard := some (13, true) }) (v := undef) rfl (by kernel_rfl) (by kernel_rfl) (by kernel_rfl) (fun _ _ _ h => h) (Or.inr ⟨by rfl, rfl⟩) (by assumption) ?_
                try simp only [Act.put, List.setIfInBounds_toArray, List.set_cons_zero, List.set_cons_succ]
                refine wpAnyH_take (i := 24) (oi := { dst := some 44, op := Go.Op.pick (Go.Operand.tmp 33) (Go.Operand.tmp 43) (Go.Operand.const (Go.Value.bool false)), type := 4, pos := "prov.go:30", after := #[{ on := 13, ground := Go.Ground.data }, { on := 23, ground := Go.Ground.data }, { on := 10, ground := Go.Ground.guard }], guard := some (10, false) }) (v := ?_) rfl (by kernel_rfl) (by kernel_rfl) (by kernel_rfl) (fun _ _ _ h => h) (Or.inl ⟨by rfl, ?_⟩) (by assumption) ?_
                rotate_left
                · intro wq hSw; (try dsimp only at hSw); go_simp; (try with_reducible rfl)
                try simp only [Act.put, List.setIfInBounds_toArray, List.set_cons_zero, List.set_cons_succ]
                refine wpAnyH_take (i := 25) (oi := { dst := some 45, op := Go.Op.pick (Go.Operand.tmp 30) (Go.Operand.const (Go.Value.bool true)) (Go.Operand.tmp 44), type := 4, pos := "prov.go:30", after := #[{ on := 10, ground := Go.Ground.data }, { on := 24, ground := Go.Ground.data }], guard := none }) (v := ?_) rfl (by kernel_rfl) (by kernel_rfl) (by kernel_rfl) (fun _ _ _ h => h) (Or.inl ⟨by rfl, ?_⟩) (by assumption) ?_
                rotate_left
                · intro wq hSw; (try dsimp only at hSw); go_simp; (try with_reducible rfl)
                try simp only [Act.put, List.setIfInBounds_toArray, List.set_cons_zero, List.set_cons_succ]
                refine wpAnyH_done (by kernel_rfl) ?_ _
                go_wp2_with fail
                go_roundw
                case rel => exact ⟨0 + 1, by omega, by go_num, Lib.hid (fun i hi => by
                  rcases Nat.lt_or_ge i 0 with h | h
                  · exact HK.out i h
                  · obtain rfl : i = 0 := by omega
                    exact HG.out), hw3⟩
                case measure => simp [intOf] <;> omega
              | succ j =>
                obtain ⟨⟨n0, d0, n9, d9⟩, hp⟩ : ∃ x, l[j]? = some x := ⟨l[j], List.getElem?_eq_getElem (by omega)⟩
                have hv0 : validB n0 d0 = true := by have q := HK.out j (by omega); unfold goodAt at q; rw [hp] at q; simp only [Bool.and_eq_true] at q; exact q.1
                obtain ⟨g2, off2, hg2, _, j0, j1, _, _⟩ := cells4 (HL.out.below hw0 (Nat.le_refl _)) hp
                injection hg2 with hg2
                injection hg2 with e3 e4
                subst e3 e4
                replace j0 : wr.cell? ⟨g, off + j * 4, none⟩ = some (.int .i64 n0) := j0
                replace j1 : wr.cell? ⟨g, off + j * 4 + 1, none⟩ = some (.int .i64 d0) := j1
                obtain ⟨p, gp, rfl, rfl⟩ := good_of_validB hv1
                obtain ⟨q, gq, rfl, rfl⟩ := good_of_validB hv0
                have q1 : IntKind.i64.wrap ((j : Int) + 1 - 1) = (j : Int) := by rw [show (j : Int) + 1 - 1 = (j : Int) by omega]; simp [IntKind.wrap, IntKind.signed, IntKind.bits]; omega
                have q9 : IntKind.i64.wrap (j : Int) = (j : Int) := by simp [IntKind.wrap, IntKind.signed, IntKind.bits]; omega
                have q2 : (0 : Int) ≤ (j : Int) + 1 := by omega
                have q3 : ((j : Int) + 1).toNat = j + 1 := by omega
                have q4 : decide ((0 : Int) < (j : Int) + 1) = true := decide_eq_true (by omega)
                have q5 : (0 : Int) < (j : Int) + 1 := by omega
                have q6 : (0 : Int) ≤ (j : Int) := by omega
                have q7 : ((j : Int)).toNat = j := by omega
                have q8 : (j : Int) < (l.length : Int) := by omega
                have hles : lessQ (q.num, q.den, n9, d9) (p.num, p.den, n2, d2) = decide (q < p) := by unfold lessQ; dsimp only; rw [Rat.num_divInt_den, Rat.num_divInt_den]
                by_cases hqp : q < p
                · have HG : Hid (goodAt l (j + 1) = true) := by show _ = _; unfold goodAt; rw [HX.out]; simp only [hp, hv1, hv2, hles, decide_eq_true hqp]; rfl
                  have hc : cmpQ p q = 1 := by unfold cmpQ; rw [if_neg (by rw [Rat.not_lt]; grind), if_pos hqp]
                  have HC : Hid (∀ W : World, Calls Tryd.prog 65 #[.agg #[.int .i64 p.num, .int .i64 p.den], .agg #[.int .i64 q.num, .int .i64 q.den]] W fun e w' => e = .returned (.int .i64 1) ∧ Below W.heap.size W w') := Lib.hid (fun W => cmpS p q 1 W gp gq hc)
                  clear hv1 hv2 hp hv0 hles hqp hc
                  go_wp2_with fail
                  have hw1 : Below w.heap.size w (wr.alloc (.cells #[.int .i64 p.num, .int .i64 (p.den : Int), .int .i64 n2, .int .i64 d2] 97)) := by (repeat' (first | with_reducible exact Below.refl _ _ | with_reducible assumption | with_reducible refine Below.drew ?_ | with_reducible refine below_drewN ?_ _ | with_reducible refine Below.setCell ?_ ?_ _ | with_reducible refine Below.alloc ?_ ?_ _ | omega | (simp; done) | (simp; omega)))
                  have X0 : Hid ((wr.alloc (.cells #[.int .i64 p.num, .int .i64 (p.den : Int), .int .i64 n2, .int .i64 d2] 97)).heap[wr.heap.size]? = some (.cells #[.int .i64 p.num, .int .i64 (p.den : Int), .int .i64 n2, .int .i64 d2] 97 (0, 0))) := blk_new rfl
                  have x0 : (wr.alloc (.cells #[.int .i64 p.num, .int .i64 (p.den : Int), .int .i64 n2, .int .i64 d2] 97)).cell? ⟨wr.heap.size, 0, none⟩ = some (.int .i64 p.num) := cellH X0 0
                  have x1 : (wr.alloc (.cells #[.int .i64 p.num, .int .i64 (p.den : Int), .int .i64 n2, .int .i64 d2] 97)).cell? ⟨wr.heap.size, 1, none⟩ = some (.int .i64 (p.den : Int)) := cellH X0 1
                  have x2 : (wr.alloc (.cells #[.int .i64 p.num, .int .i64 (p.den : Int), .int .i64 n2, .int .i64 d2] 97)).cell? ⟨wr.heap.size, 2, none⟩ = some (.int .i64 n2) := cellH X0 2
                  have x3 : (wr.alloc (.cells #[.int .i64 p.num, .int .i64 (p.den : Int), .int .i64 n2, .int .i64 d2] 97)).cell? ⟨wr.heap.size, 3, none⟩ = some (.int .i64 d2) := cellH X0 3
                  have y0 : (wr.alloc (.cells #[.int .i64 p.num, .int .i64 (p.den : Int), .int .i64 n2, .int .i64 d2] 97)).cell? ⟨g, off + j * 4, none⟩ = some (.int .i64 q.num) := cell_alloc j0
                  have y1 : (wr.alloc (.cells #[.int .i64 p.num, .int .i64 (p.den : Int), .int .i64 n2, .int .i64 d2] 97)).cell? ⟨g, off + j * 4 + 1, none⟩ = some (.int .i64 (q.den : Int)) := cell_alloc j1
                  clear k0 k1 k2 k3 X0 j0 j1
                  generalize (wr.alloc (.cells #[.int .i64 p.num, .int .i64 (p.den : Int), .int .i64 n2, .int .i64 d2] 97)) = w1 at *
                  refine wp_region_held_drew (S := fun w' => w'.cell? ⟨wr.heap.size, 0, none⟩ = some (.int .i64 p.num) ∧ w'.cell? ⟨wr.heap.size, 1, none⟩ = some (.int .i64 (p.den : Int)) ∧ w'.cell? ⟨wr.heap.size, 2, none⟩ = some (.int .i64 n2) ∧ w'.cell? ⟨wr.heap.size, 3, none⟩ = some (.int .i64 d2) ∧ w'.cell? ⟨g, off + j * 4, none⟩ = some (.int .i64 q.num) ∧ w'.cell? ⟨g, off + j * 4 + 1, none⟩ = some (.int .i64 (q.den : Int))) (by kernel_rfl) ?_ (fun hH0 => ?_)
                  · exact ⟨x0, x1, x2, x3, y0, y1⟩
                  refine wpAnyH_take (i := 0) (oi := { dst := some 20, op := Go.Op.fieldAddr 97 (Go.Operand.tmp 4) 0, type := 0, pos := "prov.go:30", after := #[], guard := none }) (v := ?_) rfl (by kernel_rfl) (by kernel_rfl) (by kernel_rfl) (fun _ _ _ h => h) (Or.inl ⟨by rfl, ?_⟩) (by assumption) ?_
                  rotate_left
                  · intro wq hSw; (try dsimp only at hSw); go_simp; (try with_reducible rfl)
                  try simp only [Act.put, List.setIfInBounds_toArray, List.set_cons_zero, List.set_cons_succ]
                  refine wpAnyH_take (i := 1) (oi := { dst := some 21, op := Go.Op.load 36 (Go.Operand.tmp 20), type := 36, pos := "prov.go:30", after := #[{ on := 0, ground := Go.Ground.data }], guard := none }) (v := ?_) rfl (by kernel_rfl) (by kernel_rfl) (by kernel_rfl) (fun _ _ _ h => h) (Or.inl ⟨by rfl, ?_⟩) (by assumption) ?_
                  rotate_left
                  · intro wq hSw; (try dsimp only at hSw); go_simp; (try with_reducible rfl)
                  try simp only [Act.put, List.setIfInBounds_toArray, List.set_cons_zero, List.set_cons_succ]
                  refine wpAnyH_ready (rs := [2]) (by kernel_rfl) (by simp) ?_
                  refine AllReadyH.cons (o := { dst := some 22, op := Go.Op.call { callee := Go.Callee.value (Go.Operand.func 50), args := #[Go.Operand.tmp 21], argTypes := #[36] }, type := 4, pos := "prov.go:30", after := #[{ on := 1, ground := Go.Ground.data }], guard := none }) rfl (fun K hK => ?_) ?_
                  rotate_left
                  · exact AllReadyH.nil
                  go_simp
                  refine (valid_is p.num (p.den : Int) true _ HV1.out i1 i1b i2 i2b).mono ?_
                  rintro e w2 ⟨rfl, hb2⟩
                  have hw2 : Below w.heap.size w w2 := stepH hw1.drew hb2
                  replace x0 : w2.cell? ⟨wr.heap.size, 0, none⟩ = some (.int .i64 p.num) := cellOf hb2 (cell_drew x0)
                  replace x1 : w2.cell? ⟨wr.heap.size, 1, none⟩ = some (.int .i64 (p.den : Int)) := cellOf hb2 (cell_drew x1)
                  replace x2 : w2.cell? ⟨wr.heap.size, 2, none⟩ = some (.int .i64 n2) := cellOf hb2 (cell_drew x2)
                  replace x3 : w2.cell? ⟨wr.heap.size, 3, none⟩ = some (.int .i64 d2) := cellOf hb2 (cell_drew x3)
                  replace y0 : w2.cell? ⟨g, off + j * 4, none⟩ = some (.int .i64 q.num) := cellOf hb2 (cell_drew y0)
                  replace y1 : w2.cell? ⟨g, off + j * 4 + 1, none⟩ = some (.int .i64 (q.den : Int)) := cellOf hb2 (cell_drew y1)
                  clear hb2
                  go_wp2_with fail
                  refine hK.out _ _ ?_ (fun hH1 => ?_)
                  · (try dsimp only); exact ⟨x0, x1, x2, x3, y0, y1⟩
                  clear hK K
                  clear hH0
                  try simp only [Act.put, List.setIfInBounds_toArray, List.set_cons_zero, List.set_cons_succ]
                  refine wpAnyH_take (i := 3) (oi := { dst := some 23, op := Go.Op.unOp Go.UnOp.not 4 (Go.Operand.tmp 22), type := 4, pos := "prov.go:30", after := #[{ on := 2, ground := Go.Ground.data }], guard := none }) (v := ?_) rfl (by kernel_rfl) (by kernel_rfl) (by kernel_rfl) (fun _ _ _ h => h) (Or.inl ⟨by rfl, ?_⟩) (by assumption) ?_
                  rotate_left
                  · intro wq hSw; (try dsimp only at hSw); go_simp; (try with_reducible rfl)
                  try simp only [Act.put, List.setIfInBounds_toArray, List.set_cons_zero, List.set_cons_succ]
                  refine wpAnyH_take (i := 4) (oi := { dst := some 24, op := Go.Op.move (Go.Operand.tmp 23), type := 4, pos := "prov.go:30", after := #[{ on := 3, ground := Go.Ground.data }, { on := 2, ground := Go.Ground.chain }], guard := none }) (v := ?_) rfl (by kernel_rfl) (by kernel_rfl) (by kernel_rfl) (fun _ _ _ h => h) (Or.inl ⟨by rfl, ?_⟩) (by assumption) ?_
                  rotate_left
                  · intro wq hSw; (try dsimp only at hSw); go_simp; (try with_reducible rfl)
                  try simp only [Act.put, List.setIfInBounds_toArray, List.set_cons_zero, List.set_cons_succ]
                  refine wpAnyH_take (i := 5) (oi := { dst := some 25, op := Go.Op.fieldAddr 97 (Go.Operand.tmp 4) 1, type := 0, pos := "prov.go:30", after := #[{ on := 4, ground := Go.Ground.guard }], guard := some (4, false) }) (v := ?_) rfl (by kernel_rfl) (by kernel_rfl) (by kernel_rfl) (fun _ _ _ h => h) (Or.inl ⟨by rfl, ?_⟩) (by assumption) ?_
                  rotate_left
                  · intro wq hSw; (try dsimp only at hSw); go_simp; (try with_reducible rfl)
                  try simp only [Act.put, List.setIfInBounds_toArray, List.set_cons_zero, List.set_cons_succ]
                  refine wpAnyH_take (i := 6) (oi := { dst := some 26, op := Go.Op.load 36 (Go.Operand.tmp 25), type := 36, pos := "prov.go:30", after := #[{ on := 5, ground := Go.Ground.data }, { on := 4, ground := Go.Ground.guard }], guard := some (4, false) }) (v := ?_) rfl (by kernel_rfl) (by kernel_rfl) (by kernel_rfl) (fun _ _ _ h => h) (Or.inl ⟨by rfl, ?_⟩) (by assumption) ?_
                  rotate_left
                  · intro wq hSw; (try dsimp only at hSw); go_simp; (try with_reducible rfl)
                  try simp only [Act.put, List.setIfInBounds_toArray, List.set_cons_zero, List.set_cons_succ]
                  refine wpAnyH_ready (rs := [7]) (by kernel_rfl) (by simp) ?_
                  refine AllReadyH.cons (o := { dst := some 27, op := Go.Op.call { callee := Go.Callee.value (Go.Operand.func 50), args := #[Go.Operand.tmp 26], argTypes := #[36] }, type := 4, pos := "prov.go:30", after := #[{ on := 6, ground := Go.Ground.data }, { on := 4, ground := Go.Ground.chain }, { on := 4, ground := Go.Ground.guard }], guard := some (4, false) }) rfl (fun K hK => ?_) ?_
                  rotate_left
                  · exact AllReadyH.nil
                  go_simp
                  refine (valid_is n2 d2 true _ HV2.out i3 i3b i4 i4b).mono ?_
                  rintro e w3 ⟨rfl, hb3⟩
                  have hw3 : Below w.heap.size w w3 := stepH hw2 hb3
                  replace x0 : w3.cell? ⟨wr.heap.size, 0, none⟩ = some (.int .i64 p.num) := cellOf hb3 x0
                  replace x1 : w3.cell? ⟨wr.heap.size, 1, none⟩ = some (.int .i64 (p.den : Int)) := cellOf hb3 x1
                  replace x2 : w3.cell? ⟨wr.heap.size, 2, none⟩ = some (.int .i64 n2) := cellOf hb3 x2
                  replace x3 : w3.cell? ⟨wr.heap.size, 3, none⟩ = some (.int .i64 d2) := cellOf hb3 x3
                  replace y0 : w3.cell? ⟨g, off + j * 4, none⟩ = some (.int .i64 q.num) := cellOf hb3 y0
                  replace y1 : w3.cell? ⟨g, off + j * 4 + 1, none⟩ = some (.int .i64 (q.den : Int)) := cellOf hb3 y1
                  clear hb3
                  go_wp2_with fail
                  refine hK.out _ _ ?_ (fun hH2 => ?_)
                  · (try dsimp only); exact ⟨x0, x1, x2, x3, y0, y1⟩
                  clear hK K
                  clear hH1
                  try simp only [Act.put, List.setIfInBounds_toArray, List.set_cons_zero, List.set_cons_succ]
                  refine wpAnyH_take (i := 8) (oi := { dst := some 28, op := Go.Op.unOp Go.UnOp.not 4 (Go.Operand.tmp 27), type := 4, pos := "prov.go:30", after := #[{ on := 7, ground := Go.Ground.data }, { on := 4, ground := Go.Ground.guard }], guard := some (4, false) }) (v := ?_) rfl (by kernel_rfl) (by kernel_rfl) (by kernel_rfl) (fun _ _ _ h => h) (Or.inl ⟨by rfl, ?_⟩) (by assumption) ?_
                  rotate_left
                  · intro wq hSw; (try dsimp only at hSw); go_simp; (try with_reducible rfl)
                  try simp only [Act.put, List.setIfInBounds_toArray, List.set_cons_zero, List.set_cons_succ]
                  refine wpAnyH_take (i := 9) (oi := { dst := some 29, op := Go.Op.pick (Go.Operand.tmp 24) (Go.Operand.const (Go.Value.bool true)) (Go.Operand.tmp 28), type := 4, pos := "prov.go:30", after := #[{ on := 4, ground := Go.Ground.data }, { on := 8, ground := Go.Ground.data }], guard := none }) (v := ?_) rfl (by kernel_rfl) (by kernel_rfl) (by kernel_rfl) (fun _ _ _ h => h) (Or.inl ⟨by rfl, ?_⟩) (by assumption) ?_
                  rotate_left
                  · intro wq hSw; (try dsimp only at hSw); go_simp; (try with_reducible rfl)
                  try simp only [Act.put, List.setIfInBounds_toArray, List.set_cons_zero, List.set_cons_succ]
                  refine wpAnyH_take (i := 10) (oi := { dst := some 30, op := Go.Op.move (Go.Operand.tmp 29), type := 4, pos := "prov.go:30", after := #[{ on := 9, ground := Go.Ground.data }, { on := 7, ground := Go.Ground.chain }], guard := none }) (v := ?_) rfl (by kernel_rfl) (by kernel_rfl) (by kernel_rfl) (fun _ _ _ h => h) (Or.inl ⟨by rfl, ?_⟩) (by assumption) ?_
                  rotate_left
                  · intro wq hSw; (try dsimp only at hSw); go_simp; (try with_reducible rfl)
                  try simp only [Act.put, List.setIfInBounds_toArray, List.set_cons_zero, List.set_cons_succ]
                  refine wpAnyH_take (i := 11) (oi := { dst := some 31, op := Go.Op.move (Go.Operand.tmp 3), type := 3, pos := "prov.go:30", after := #[{ on := 10, ground := Go.Ground.guard }], guard := some (10, false) }) (v := ?_) rfl (by kernel_rfl) (by kernel_rfl) (by kernel_rfl) (fun _ _ _ h => h) (Or.inl ⟨by rfl, ?_⟩) (by assumption) ?_
                  rotate_left
                  · intro wq hSw; (try dsimp only at hSw); go_simp; (try with_reducible rfl)
                  try simp only [Act.put, List.setIfInBounds_toArray, List.set_cons_zero, List.set_cons_succ]
                  refine wpAnyH_take (i := 12) (oi := { dst := some 32, op := Go.Op.binOp Go.BinOp.gtr 3 (Go.Operand.tmp 31) (Go.Operand.const (Go.Value.int Go.IntKind.i64 0)) 3, type := 4, pos := "prov.go:30", after := #[{ on := 11, ground := Go.Ground.data }, { on := 10, ground := Go.Ground.guard }], guard := some (10, false) }) (v := ?_) rfl (by kernel_rfl) (by kernel_rfl) (by kernel_rfl) (fun _ _ _ h => h) (Or.inl ⟨by rfl, ?_⟩) (by assumption) ?_
                  rotate_left
                  · intro wq hSw; (try dsimp only at hSw); go_simp; (try with_reducible rfl)
                  try simp only [Act.put, List.setIfInBounds_toArray, List.set_cons_zero, List.set_cons_succ]
                  refine wpAnyH_take (i := 13) (oi := { dst := some 33, op := Go.Op.move (Go.Operand.tmp 32), type := 4, pos := "prov.go:30", after := #[{ on := 12, ground := Go.Ground.data }, { on := 10, ground := Go.Ground.chain }, { on := 10, ground := Go.Ground.guard }], guard := some (10, false) }) (v := ?_) rfl (by kernel_rfl) (by kernel_rfl) (by kernel_rfl) (fun _ _ _ h => h) (Or.inl ⟨by rfl, ?_⟩) (by assumption) ?_
                  rotate_left
                  · intro wq hSw; (try dsimp only at hSw); go_simp; (try with_reducible rfl)
                  try simp only [Act.put, List.setIfInBounds_toArray, List.set_cons_zero, List.set_cons_succ]
                  refine wpAnyH_take (i := 14) (oi := { dst := some 34, op := Go.Op.fieldAddr 97 (Go.Operand.tmp 4) 0, type := 0, pos := "prov.go:30", after := #[{ on := 13, ground := Go.Ground.guard }], guard := some (13, true) }) (v := ?_) rfl (by kernel_rfl) (by kernel_rfl) (by kernel_rfl) (fun _ _ _ h => h) (Or.inl ⟨by rfl, ?_⟩) (by assumption) ?_
                  rotate_left
                  · intro wq hSw; (try dsimp only at hSw); go_simp; (try with_reducible rfl)
                  try simp only [Act.put, List.setIfInBounds_toArray, List.set_cons_zero, List.set_cons_succ]
                  refine wpAnyH_take (i := 15) (oi := { dst := some 35, op := Go.Op.load 36 (Go.Operand.tmp 34), type := 36, pos := "prov.go:30", after := #[{ on := 14, ground := Go.Ground.data }, { on := 13, ground := Go.Ground.guard }], guard := some (13, true) }) (v := ?_) rfl (by kernel_rfl) (by kernel_rfl) (by kernel_rfl) (fun _ _ _ h => h) (Or.inl ⟨by rfl, ?_⟩) (by assumption) ?_
                  rotate_left
                  · intro wq hSw; (try dsimp only at hSw); go_simp; (try with_reducible rfl)
                  try simp only [Act.put, List.setIfInBounds_toArray, List.set_cons_zero, List.set_cons_succ]
                  refine wpAnyH_take (i := 16) (oi := { dst := some 36, op := Go.Op.move (Go.Operand.tmp 0), type := 37, pos := "prov.go:30", after := #[{ on := 13, ground := Go.Ground.guard }], guard := some (13, true) }) (v := ?_) rfl (by kernel_rfl) (by kernel_rfl) (by kernel_rfl) (fun _ _ _ h => h) (Or.inl ⟨by rfl, ?_⟩) (by assumption) ?_
                  rotate_left
                  · intro wq hSw; (try dsimp only at hSw); go_simp; (try with_reducible rfl)
                  try simp only [Act.put, List.setIfInBounds_toArray, List.set_cons_zero, List.set_cons_succ]
                  refine wpAnyH_take (i := 17) (oi := { dst := some 37, op := Go.Op.move (Go.Operand.tmp 3), type := 3, pos := "prov.go:30", after := #[{ on := 13, ground := Go.Ground.guard }], guard := some (13, true) }) (v := ?_) rfl (by kernel_rfl) (by kernel_rfl) (by kernel_rfl) (fun _ _ _ h => h) (Or.inl ⟨by rfl, ?_⟩) (by assumption) ?_
                  rotate_left
                  · intro wq hSw; (try dsimp only at hSw); go_simp; (try with_reducible rfl)
                  try simp only [Act.put, List.setIfInBounds_toArray, List.set_cons_zero, List.set_cons_succ]
                  refine wpAnyH_take (i := 18) (oi := { dst := some 38, op := Go.Op.binOp Go.BinOp.sub 3 (Go.Operand.tmp 37) (Go.Operand.const (Go.Value.int Go.IntKind.i64 1)) 3, type := 3, pos := "prov.go:30", after := #[{ on := 17, ground := Go.Ground.data }, { on := 13, ground := Go.Ground.guard }], guard := some (13, true) }) (v := ?_) rfl (by kernel_rfl) (by kernel_rfl) (by kernel_rfl) (fun _ _ _ h => h) (Or.inl ⟨by rfl, ?_⟩) (by assumption) ?_
                  rotate_left
                  · intro wq hSw; (try dsimp only at hSw); go_simp; (try with_reducible rfl)
                  try simp only [Act.put, List.setIfInBounds_toArray, List.set_cons_zero, List.set_cons_succ]
                  refine wpAnyH_take (i := 19) (oi := { dst := some 39, op := Go.Op.indexAddr 37 (Go.Operand.tmp 36) (Go.Operand.tmp 38), type := 0, pos := "prov.go:30", after := #[{ on := 16, ground := Go.Ground.data }, { on := 18, ground := Go.Ground.data }, { on := 13, ground := Go.Ground.guard }], guard := some (13, true) }) (v := ?_) rfl (by kernel_rfl) (by kernel_rfl) (by kernel_rfl) (fun _ _ _ h => h) (Or.inl ⟨by rfl, ?_⟩) (by assumption) ?_
                  rotate_left
                  · intro wq hSw; (try dsimp only at hSw); go_simp; (try with_reducible rfl)
                  try simp only [Act.put, List.setIfInBounds_toArray, List.set_cons_zero, List.set_cons_succ]
                  refine wpAnyH_take (i := 20) (oi := { dst := some 40, op := Go.Op.fieldAddr 97 (Go.Operand.tmp 39) 0, type := 0, pos := "prov.go:30", after := #[{ on := 19, ground := Go.Ground.data }, { on := 13, ground := Go.Ground.guard }], guard := some (13, true) }) (v := ?_) rfl (by kernel_rfl) (by kernel_rfl) (by kernel_rfl) (fun _ _ _ h => h) (Or.inl ⟨by rfl, ?_⟩) (by assumption) ?_
                  rotate_left
                  · intro wq hSw; (try dsimp only at hSw); go_simp; (try with_reducible rfl)
                  try simp only [Act.put, List.setIfInBounds_toArray, List.set_cons_zero, List.set_cons_succ]
                  refine wpAnyH_take (i := 21) (oi := { dst := some 41, op := Go.Op.load 36 (Go.Operand.tmp 40), type := 36, pos := "prov.go:30", after := #[{ on := 20, ground := Go.Ground.data }, { on := 13, ground := Go.Ground.guard }], guard := some (13, true) }) (v := ?_) rfl (by kernel_rfl) (by kernel_rfl) (by kernel_rfl) (fun _ _ _ h => h) (Or.inl ⟨by rfl, ?_⟩) (by assumption) ?_
                  rotate_left
                  · intro wq hSw; (try dsimp only at hSw); go_simp; (try with_reducible rfl)
                  try simp only [Act.put, List.setIfInBounds_toArray, List.set_cons_zero, List.set_cons_succ]
                  refine wpAnyH_ready (rs := [22]) (by kernel_rfl) (by simp) ?_
                  refine AllReadyH.cons (o := { dst := some 42, op := Go.Op.call { callee := Go.Callee.value (Go.Operand.func 65), args := #[Go.Operand.tmp 35, Go.Operand.tmp 41], argTypes := #[36, 36] }, type := 3, pos := "prov.go:30", after := #[{ on := 15, ground := Go.Ground.data }, { on := 21, ground := Go.Ground.data }, { on := 13, ground := Go.Ground.chain }, { on := 13, ground := Go.Ground.guard }], guard := some (13, true) }) rfl (fun K hK => ?_) ?_
                  rotate_left
                  · exact AllReadyH.nil
                  go_simp
                  refine (HC.out _).mono ?_
                  rintro e w4 ⟨rfl, hb4⟩
                  have hw4 : Below w.heap.size w w4 := stepH hw3 hb4
                  replace x0 : w4.cell? ⟨wr.heap.size, 0, none⟩ = some (.int .i64 p.num) := cellOf hb4 x0
                  replace x1 : w4.cell? ⟨wr.heap.size, 1, none⟩ = some (.int .i64 (p.den : Int)) := cellOf hb4 x1
                  replace x2 : w4.cell? ⟨wr.heap.size, 2, none⟩ = some (.int .i64 n2) := cellOf hb4 x2
                  replace x3 : w4.cell? ⟨wr.heap.size, 3, none⟩ = some (.int .i64 d2) := cellOf hb4 x3
                  replace y0 : w4.cell? ⟨g, off + j * 4, none⟩ = some (.int .i64 q.num) := cellOf hb4 y0
                  replace y1 : w4.cell? ⟨g, off + j * 4 + 1, none⟩ = some (.int .i64 (q.den : Int)) := cellOf hb4 y1
                  clear hb4
                  go_wp2_with fail
                  refine hK.out _ _ ?_ (fun hH3 => ?_)
                  · (try dsimp only); exact ⟨x0, x1, x2, x3, y0, y1⟩
                  clear hK K
                  clear hH2
                  try simp only [Act.put, List.setIfInBounds_toArray, List.set_cons_zero, List.set_cons_succ]
                  refine wpAnyH_take (i := 23) (oi := { dst := some 43, op := Go.Op.binOp Go.BinOp.leq 3 (Go.Operand.tmp 42) (Go.Operand.const (Go.Value.int Go.IntKind.i64 0)) 3, type := 4, pos := "prov.go:30", after := #[{ on := 22, ground := Go.Ground.data }, { on := 13, ground := Go.Ground.guard }], guard := some (13, true) }) (v := ?_) rfl (by kernel_rfl) (by kernel_rfl) (by kernel_rfl) (fun _ _ _ h => h) (Or.inl ⟨by rfl, ?_⟩) (by assumption) ?_
                  rotate_left
                  · intro wq hSw; (try dsimp only at hSw); go_simp; (try with_reducible rfl)
                  try simp only [Act.put, List.setIfInBounds_toArray, List.set_cons_zero, List.set_cons_succ]
                  refine wpAnyH_take (i := 24) (oi := { dst := some 44, op := Go.Op.pick (Go.Operand.tmp 33) (Go.Operand.tmp 43) (Go.Operand.const (Go.Value.bool false)), type := 4, pos := "prov.go:30", after := #[{ on := 13, ground := Go.Ground.data }, { on := 23, ground := Go.Ground.data }, { on := 10, ground := Go.Ground.guard }], guard := some (10, false) }) (v := ?_) rfl (by kernel_rfl) (by kernel_rfl) (by kernel_rfl) (fun _ _ _ h => h) (Or.inl ⟨by rfl, ?_⟩) (by assumption) ?_
                  rotate_left
                  · intro wq hSw; (try dsimp only at hSw); go_simp; (try with_reducible rfl)
                  try simp only [Act.put, List.setIfInBounds_toArray, List.set_cons_zero, List.set_cons_succ]
                  refine wpAnyH_take (i := 25) (oi := { dst := some 45, op := Go.Op.pick (Go.Operand.tmp 30) (Go.Operand.const (Go.Value.bool true)) (Go.Operand.tmp 44), type := 4, pos := "prov.go:30", after := #[{ on := 10, ground := Go.Ground.data }, { on := 24, ground := Go.Ground.data }], guard := none }) (v := ?_) rfl (by kernel_rfl) (by kernel_rfl) (by kernel_rfl) (fun _ _ _ h => h) (Or.inl ⟨by rfl, ?_⟩) (by assumption) ?_
                  rotate_left
                  · intro wq hSw; (try dsimp only at hSw); go_simp; (try with_reducible rfl)
                  try simp only [Act.put, List.setIfInBounds_toArray, List.set_cons_zero, List.set_cons_succ]
                  refine wpAnyH_done (by kernel_rfl) ?_ _
                  go_wp2_with fail
                  go_roundw
                  case rel => exact ⟨j + 1 + 1, by omega, by go_num, Lib.hid (fun i hi => by
                    rcases Nat.lt_or_ge i (j + 1) with h | h
                    · exact HK.out i h
                    · obtain rfl : i = j + 1 := by omega
                      exact HG.out), hw4⟩
                  case measure => simp [intOf] <;> omega
                · have HB : Hid (goodAt l (j + 1) = false) := by show _ = _; unfold goodAt; rw [HX.out]; simp only [hp, hv1, hv2, hles, decide_eq_false hqp]; rfl
                  obtain ⟨x, hx⟩ : ∃ x, cmpQ p q = x := ⟨_, rfl⟩
                  have hx0 : decide (x ≤ 0) = true := by rw [← hx]; unfold cmpQ; rw [if_neg hqp]; split <;> rfl
                  have HC : Hid (∀ W : World, Calls Tryd.prog 65 #[.agg #[.int .i64 p.num, .int .i64 p.den], .agg #[.int .i64 q.num, .int .i64 q.den]] W fun e w' => e = .returned (.int .i64 x) ∧ Below W.heap.size W w') := Lib.hid (fun W => cmpS p q x W gp gq hx)
                  clear hv1 hv2 hp hv0 hles hqp hx
                  go_wp2_with fail
                  have hw1 : Below w.heap.size w (wr.alloc (.cells #[.int .i64 p.num, .int .i64 (p.den : Int), .int .i64 n2, .int .i64 d2] 97)) := by (repeat' (first | with_reducible exact Below.refl _ _ | with_reducible assumption | with_reducible refine Below.drew ?_ | with_reducible refine below_drewN ?_ _ | with_reducible refine Below.setCell ?_ ?_ _ | with_reducible refine Below.alloc ?_ ?_ _ | omega | (simp; done) | (simp; omega)))
                  have X0 : Hid ((wr.alloc (.cells #[.int .i64 p.num, .int .i64 (p.den : Int), .int .i64 n2, .int .i64 d2] 97)).heap[wr.heap.size]? = some (.cells #[.int .i64 p.num, .int .i64 (p.den : Int), .int .i64 n2, .int .i64 d2] 97 (0, 0))) := blk_new rfl
                  have x0 : (wr.alloc (.cells #[.int .i64 p.num, .int .i64 (p.den : Int), .int .i64 n2, .int .i64 d2] 97)).cell? ⟨wr.heap.size, 0, none⟩ = some (.int .i64 p.num) := cellH X0 0
                  have x1 : (wr.alloc (.cells #[.int .i64 p.num, .int .i64 (p.den : Int), .int .i64 n2, .int .i64 d2] 97)).cell? ⟨wr.heap.size, 1, none⟩ = some (.int .i64 (p.den : Int)) := cellH X0 1
                  have x2 : (wr.alloc (.cells #[.int .i64 p.num, .int .i64 (p.den : Int), .int .i64 n2, .int .i64 d2] 97)).cell? ⟨wr.heap.size, 2, none⟩ = some (.int .i64 n2) := cellH X0 2
                  have x3 : (wr.alloc (.cells #[.int .i64 p.num, .int .i64 (p.den : Int), .int .i64 n2, .int .i64 d2] 97)).cell? ⟨wr.heap.size, 3, none⟩ = some (.int .i64 d2) := cellH X0 3
                  have y0 : (wr.alloc (.cells #[.int .i64 p.num, .int .i64 (p.den : Int), .int .i64 n2, .int .i64 d2] 97)).cell? ⟨g, off + j * 4, none⟩ = some (.int .i64 q.num) := cell_alloc j0
                  have y1 : (wr.alloc (.cells #[.int .i64 p.num, .int .i64 (p.den : Int), .int .i64 n2, .int .i64 d2] 97)).cell? ⟨g, off + j * 4 + 1, none⟩ = some (.int .i64 (q.den : Int)) := cell_alloc j1
                  clear k0 k1 k2 k3 X0 j0 j1
                  generalize (wr.alloc (.cells #[.int .i64 p.num, .int .i64 (p.den : Int), .int .i64 n2, .int .i64 d2] 97)) = w1 at *
                  refine wp_region_held_drew (S := fun w' => w'.cell? ⟨wr.heap.size, 0, none⟩ = some (.int .i64 p.num) ∧ w'.cell? ⟨wr.heap.size, 1, none⟩ = some (.int .i64 (p.den : Int)) ∧ w'.cell? ⟨wr.heap.size, 2, none⟩ = some (.int .i64 n2) ∧ w'.cell? ⟨wr.heap.size, 3, none⟩ = some (.int .i64 d2) ∧ w'.cell? ⟨g, off + j * 4, none⟩ = some (.int .i64 q.num) ∧ w'.cell? ⟨g, off + j * 4 + 1, none⟩ = some (.int .i64 (q.den : Int))) (by kernel_rfl) ?_ (fun hH0 => ?_)
                  · exact ⟨x0, x1, x2, x3, y0, y1⟩
                  refine wpAnyH_take (i := 0) (oi := { dst := some 20, op := Go.Op.fieldAddr 97 (Go.Operand.tmp 4) 0, type := 0, pos := "prov.go:30", after := #[], guard := none }) (v := ?_) rfl (by kernel_rfl) (by kernel_rfl) (by kernel_rfl) (fun _ _ _ h => h) (Or.inl ⟨by rfl, ?_⟩) (by assumption) ?_
                  rotate_left
                  · intro wq hSw; (try dsimp only at hSw); go_simp; (try with_reducible rfl)
                  try simp only [Act.put, List.setIfInBounds_toArray, List.set_cons_zero, List.set_cons_succ]
                  refine wpAnyH_take (i := 1) (oi := { dst := some 21, op := Go.Op.load 36 (Go.Operand.tmp 20), type := 36, pos := "prov.go:30", after := #[{ on := 0, ground := Go.Ground.data }], guard := none }) (v := ?_) rfl (by kernel_rfl) (by kernel_rfl) (by kernel_rfl) (fun _ _ _ h => h) (Or.inl ⟨by rfl, ?_⟩) (by assumption) ?_
                  rotate_left
                  · intro wq hSw; (try dsimp only at hSw); go_simp; (try with_reducible rfl)
                  try simp only [Act.put, List.setIfInBounds_toArray, List.set_cons_zero, List.set_cons_succ]
                  refine wpAnyH_ready (rs := [2]) (by kernel_rfl) (by simp) ?_
                  refine AllReadyH.cons (o := { dst := some 22, op := Go.Op.call { callee := Go.Callee.value (Go.Operand.func 50), args := #[Go.Operand.tmp 21], argTypes := #[36] }, type := 4, pos := "prov.go:30", after := #[{ on := 1, ground := Go.Ground.data }], guard := none }) rfl (fun K hK => ?_) ?_
                  rotate_left
                  · exact AllReadyH.nil
                  go_simp
                  refine (valid_is p.num (p.den : Int) true _ HV1.out i1 i1b i2 i2b).mono ?_
                  rintro e w2 ⟨rfl, hb2⟩
                  have hw2 : Below w.heap.size w w2 := stepH hw1.drew hb2
                  replace x0 : w2.cell? ⟨wr.heap.size, 0, none⟩ = some (.int .i64 p.num) := cellOf hb2 (cell_drew x0)
                  replace x1 : w2.cell? ⟨wr.heap.size, 1, none⟩ = some (.int .i64 (p.den : Int)) := cellOf hb2 (cell_drew x1)
                  replace x2 : w2.cell? ⟨wr.heap.size, 2, none⟩ = some (.int .i64 n2) := cellOf hb2 (cell_drew x2)
                  replace x3 : w2.cell? ⟨wr.heap.size, 3, none⟩ = some (.int .i64 d2) := cellOf hb2 (cell_drew x3)
                  replace y0 : w2.cell? ⟨g, off + j * 4, none⟩ = some (.int .i64 q.num) := cellOf hb2 (cell_drew y0)
                  replace y1 : w2.cell? ⟨g, off + j * 4 + 1, none⟩ = some (.int .i64 (q.den : Int)) := cellOf hb2 (cell_drew y1)
                  clear hb2
                  go_wp2_with fail
                  refine hK.out _ _ ?_ (fun hH1 => ?_)
                  · (try dsimp only); exact ⟨x0, x1, x2, x3, y0, y1⟩
                  clear hK K
                  clear hH0
                  try simp only [Act.put, List.setIfInBounds_toArray, List.set_cons_zero, List.set_cons_succ]
                  refine wpAnyH_take (i := 3) (oi := { dst := some 23, op := Go.Op.unOp Go.UnOp.not 4 (Go.Operand.tmp 22), type := 4, pos := "prov.go:30", after := #[{ on := 2, ground := Go.Ground.data }], guard := none }) (v := ?_) rfl (by kernel_rfl) (by kernel_rfl) (by kernel_rfl) (fun _ _ _ h => h) (Or.inl ⟨by rfl, ?_⟩) (by assumption) ?_
                  rotate_left
                  · intro wq hSw; (try dsimp only at hSw); go_simp; (try with_reducible rfl)
                  try simp only [Act.put, List.setIfInBounds_toArray, List.set_cons_zero, List.set_cons_succ]
                  refine wpAnyH_take (i := 4) (oi := { dst := some 24, op := Go.Op.move (Go.Operand.tmp 23), type := 4, pos := "prov.go:30", after := #[{ on := 3, ground := Go.Ground.data }, { on := 2, ground := Go.Ground.chain }], guard := none }) (v := ?_) rfl (by kernel_rfl) (by kernel_rfl) (by kernel_rfl) (fun _ _ _ h => h) (Or.inl ⟨by rfl, ?_⟩) (by assumption) ?_
                  rotate_left
                  · intro wq hSw; (try dsimp only at hSw); go_simp; (try with_reducible rfl)
                  try simp only [Act.put, List.setIfInBounds_toArray, List.set_cons_zero, List.set_cons_succ]
                  refine wpAnyH_take (i := 5) (oi := { dst := some 25, op := Go.Op.fieldAddr 97 (Go.Operand.tmp 4) 1, type := 0, pos := "prov.go:30", after := #[{ on := 4, ground := Go.Ground.guard }], guard := some (4, false) }) (v := ?_) rfl (by kernel_rfl) (by kernel_rfl) (by kernel_rfl) (fun _ _ _ h => h) (Or.inl ⟨by rfl, ?_⟩) (by assumption) ?_
                  rotate_left
                  · intro wq hSw; (try dsimp only at hSw); go_simp; (try with_reducible rfl)
                  try simp only [Act.put, List.setIfInBounds_toArray, List.set_cons_zero, List.set_cons_succ]
                  refine wpAnyH_take (i := 6) (oi := { dst := some 26, op := Go.Op.load 36 (Go.Operand.tmp 25), type := 36, pos := "prov.go:30", after := #[{ on := 5, ground := Go.Ground.data }, { on := 4, ground := Go.Ground.guard }], guard := some (4, false) }) (v := ?_) rfl (by kernel_rfl) (by kernel_rfl) (by kernel_rfl) (fun _ _ _ h => h) (Or.inl ⟨by rfl, ?_⟩) (by assumption) ?_
                  rotate_left
                  · intro wq hSw; (try dsimp only at hSw); go_simp; (try with_reducible rfl)
                  try simp only [Act.put, List.setIfInBounds_toArray, List.set_cons_zero, List.set_cons_succ]
                  refine wpAnyH_ready (rs := [7]) (by kernel_rfl) (by simp) ?_
                  refine AllReadyH.cons (o := { dst := some 27, op := Go.Op.call { callee := Go.Callee.value (Go.Operand.func 50), args := #[Go.Operand.tmp 26], argTypes := #[36] }, type := 4, pos := "prov.go:30", after := #[{ on := 6, ground := Go.Ground.data }, { on := 4, ground := Go.Ground.chain }, { on := 4, ground := Go.Ground.guard }], guard := some (4, false) }) rfl (fun K hK => ?_) ?_
                  rotate_left
                  · exact AllReadyH.nil
                  go_simp
                  refine (valid_is n2 d2 true _ HV2.out i3 i3b i4 i4b).mono ?_
                  rintro e w3 ⟨rfl, hb3⟩
                  have hw3 : Below w.heap.size w w3 := stepH hw2 hb3
                  replace x0 : w3.cell? ⟨wr.heap.size, 0, none⟩ = some (.int .i64 p.num) := cellOf hb3 x0
                  replace x1 : w3.cell? ⟨wr.heap.size, 1, none⟩ = some (.int .i64 (p.den : Int)) := cellOf hb3 x1
                  replace x2 : w3.cell? ⟨wr.heap.size, 2, none⟩ = some (.int .i64 n2) := cellOf hb3 x2
                  replace x3 : w3.cell? ⟨wr.heap.size, 3, none⟩ = some (.int .i64 d2) := cellOf hb3 x3
                  replace y0 : w3.cell? ⟨g, off + j * 4, none⟩ = some (.int .i64 q.num) := cellOf hb3 y0
                  replace y1 : w3.cell? ⟨g, off + j * 4 + 1, none⟩ = some (.int .i64 (q.den : Int)) := cellOf hb3 y1
                  clear hb3
                  go_wp2_with fail
                  refine hK.out _ _ ?_ (fun hH2 => ?_)
                  · (try dsimp only); exact ⟨x0, x1, x2, x3, y0, y1⟩
                  clear hK K
                  clear hH1
                  try simp only [Act.put, List.setIfInBounds_toArray, List.set_cons_zero, List.set_cons_succ]
                  refine wpAnyH_take (i := 8) (oi := { dst := some 28, op := Go.Op.unOp Go.UnOp.not 4 (Go.Operand.tmp 27), type := 4, pos := "prov.go:30", after := #[{ on := 7, ground := Go.Ground.data }, { on := 4, ground := Go.Ground.guard }], guard := some (4, false) }) (v := ?_) rfl (by kernel_rfl) (by kernel_rfl) (by kernel_rfl) (fun _ _ _ h => h) (Or.inl ⟨by rfl, ?_⟩) (by assumption) ?_
                  rotate_left
                  · intro wq hSw; (try dsimp only at hSw); go_simp; (try with_reducible rfl)
                  try simp only [Act.put, List.setIfInBounds_toArray, List.set_cons_zero, List.set_cons_succ]
                  refine wpAnyH_take (i := 9) (oi := { dst := some 29, op := Go.Op.pick (Go.Operand.tmp 24) (Go.Operand.const (Go.Value.bool true)) (Go.Operand.tmp 28), type := 4, pos := "prov.go:30", after := #[{ on := 4, ground := Go.Ground.data }, { on := 8, ground := Go.Ground.data }], guard := none }) (v := ?_) rfl (by kernel_rfl) (by kernel_rfl) (by kernel_rfl) (fun _ _ _ h => h) (Or.inl ⟨by rfl, ?_⟩) (by assumption) ?_
                  rotate_left
                  · intro wq hSw; (try dsimp only at hSw); go_simp; (try with_reducible rfl)
                  try simp only [Act.put, List.setIfInBounds_toArray, List.set_cons_zero, List.set_cons_succ]
                  refine wpAnyH_take (i := 10) (oi := { dst := some 30, op := Go.Op.move (Go.Operand.tmp 29), type := 4, pos := "prov.go:30", after := #[{ on := 9, ground := Go.Ground.data }, { on := 7, ground := Go.Ground.chain }], guard := none }) (v := ?_) rfl (by kernel_rfl) (by kernel_rfl) (by kernel_rfl) (fun _ _ _ h => h) (Or.inl ⟨by rfl, ?_⟩) (by assumption) ?_
                  rotate_left
                  · intro wq hSw; (try dsimp only at hSw); go_simp; (try with_reducible rfl)
                  try simp only [Act.put, List.setIfInBounds_toArray, List.set_cons_zero, List.set_cons_succ]
                  refine wpAnyH_take (i := 11) (oi := { dst := some 31, op := Go.Op.move (Go.Operand.tmp 3), type := 3, pos := "prov.go:30", after := #[{ on := 10, ground := Go.Ground.guard }], guard := some (10, false) }) (v := ?_) rfl (by kernel_rfl) (by kernel_rfl) (by kernel_rfl) (fun _ _ _ h => h) (Or.inl ⟨by rfl, ?_⟩) (by assumption) ?_
                  rotate_left
                  · intro wq hSw; (try dsimp only at hSw); go_simp; (try with_reducible rfl)
                  try simp only [Act.put, List.setIfInBounds_toArray, List.set_cons_zero, List.set_cons_succ]
                  refine wpAnyH_take (i := 12) (oi := { dst := some 32, op := Go.Op.binOp Go.BinOp.gtr 3 (Go.Operand.tmp 31) (Go.Operand.const (Go.Value.int Go.IntKind.i64 0)) 3, type := 4, pos := "prov.go:30", after := #[{ on := 11, ground := Go.Ground.data }, { on := 10, ground := Go.Ground.guard }], guard := some (10, false) }) (v := ?_) rfl (by kernel_rfl) (by kernel_rfl) (by kernel_rfl) (fun _ _ _ h => h) (Or.inl ⟨by rfl, ?_⟩) (by assumption) ?_
                  rotate_left
                  · intro wq hSw; (try dsimp only at hSw); go_simp; (try with_reducible rfl)
                  try simp only [Act.put, List.setIfInBounds_toArray, List.set_cons_zero, List.set_cons_succ]
                  refine wpAnyH_take (i := 13) (oi := { dst := some 33, op := Go.Op.move (Go.Operand.tmp 32), type := 4, pos := "prov.go:30", after := #[{ on := 12, ground := Go.Ground.data }, { on := 10, ground := Go.Ground.chain }, { on := 10, ground := Go.Ground.guard }], guard := some (10, false) }) (v := ?_) rfl (by kernel_rfl) (by kernel_rfl) (by kernel_rfl) (fun _ _ _ h => h) (Or.inl ⟨by rfl, ?_⟩) (by assumption) ?_
                  rotate_left
                  · intro wq hSw; (try dsimp only at hSw); go_simp; (try with_reducible rfl)
                  try simp only [Act.put, List.setIfInBounds_toArray, List.set_cons_zero, List.set_cons_succ]
                  refine wpAnyH_take (i := 14) (oi := { dst := some 34, op := Go.Op.fieldAddr 97 (Go.Operand.tmp 4) 0, type := 0, pos := "prov.go:30", after := #[{ on := 13, ground := Go.Ground.guard }], guard := some (13, true) }) (v := ?_) rfl (by kernel_rfl) (by kernel_rfl) (by kernel_rfl) (fun _ _ _ h => h) (Or.inl ⟨by rfl, ?_⟩) (by assumption) ?_
                  rotate_left
                  · intro wq hSw; (try dsimp only at hSw); go_simp; (try with_reducible rfl)
                  try simp only [Act.put, List.setIfInBounds_toArray, List.set_cons_zero, List.set_cons_succ]
                  refine wpAnyH_take (i := 15) (oi := { dst := some 35, op := Go.Op.load 36 (Go.Operand.tmp 34), type := 36, pos := "prov.go:30", after := #[{ on := 14, ground := Go.Ground.data }, { on := 13, ground := Go.Ground.guard }], guard := some (13, true) }) (v := ?_) rfl (by kernel_rfl) (by kernel_rfl) (by kernel_rfl) (fun _ _ _ h => h) (Or.inl ⟨by rfl, ?_⟩) (by assumption) ?_
                  rotate_left
                  · intro wq hSw; (try dsimp only at hSw); go_simp; (try with_reducible rfl)
                  try simp only [Act.put, List.setIfInBounds_toArray, List.set_cons_zero, List.set_cons_succ]
                  refine wpAnyH_take (i := 16) (oi := { dst := some 36, op := Go.Op.move (Go.Operand.tmp 0), type := 37, pos := "prov.go:30", after := #[{ on := 13, ground := Go.Ground.guard }], guard := some (13, true) }) (v := ?_) rfl (by kernel_rfl) (by kernel_rfl) (by kernel_rfl) (fun _ _ _ h => h) (Or.inl ⟨by rfl, ?_⟩) (by assumption) ?_
                  rotate_left
                  · intro wq hSw; (try dsimp only at hSw); go_simp; (try with_reducible rfl)
                  try simp only [Act.put, List.setIfInBounds_toArray, List.set_cons_zero, List.set_cons_succ]
                  refine wpAnyH_take (i := 17) (oi := { dst := some 37, op := Go.Op.move (Go.Operand.tmp 3), type := 3, pos := "prov.go:30", after := #[{ on := 13, ground := Go.Ground.guard }], guard := some (13, true) }) (v := ?_) rfl (by kernel_rfl) (by kernel_rfl) (by kernel_rfl) (fun _ _ _ h => h) (Or.inl ⟨by rfl, ?_⟩) (by assumption) ?_
                  rotate_left
                  · intro wq hSw; (try dsimp only at hSw); go_simp; (try with_reducible rfl)
                  try simp only [Act.put, List.setIfInBounds_toArray, List.set_cons_zero, List.set_cons_succ]
                  refine wpAnyH_take (i := 18) (oi := { dst := some 38, op := Go.Op.binOp Go.BinOp.sub 3 (Go.Operand.tmp 37) (Go.Operand.const (Go.Value.int Go.IntKind.i64 1)) 3, type := 3, pos := "prov.go:30", after := #[{ on := 17, ground := Go.Ground.data }, { on := 13, ground := Go.Ground.guard }], guard := some (13, true) }) (v := ?_) rfl (by kernel_rfl) (by kernel_rfl) (by kernel_rfl) (fun _ _ _ h => h) (Or.inl ⟨by rfl, ?_⟩) (by assumption) ?_
                  rotate_left
                  · intro wq hSw; (try dsimp only at hSw); go_simp; (try with_reducible rfl)
                  try simp only [Act.put, List.setIfInBounds_toArray, List.set_cons_zero, List.set_cons_succ]
                  refine wpAnyH_take (i := 19) (oi := { dst := some 39, op := Go.Op.indexAddr 37 (Go.Operand.tmp 36) (Go.Operand.tmp 38), type := 0, pos := "prov.go:30", after := #[{ on := 16, ground := Go.Ground.data }, { on := 18, ground := Go.Ground.data }, { on := 13, ground := Go.Ground.guard }], guard := some (13, true) }) (v := ?_) rfl (by kernel_rfl) (by kernel_rfl) (by kernel_rfl) (fun _ _ _ h => h) (Or.inl ⟨by rfl, ?_⟩) (by assumption) ?_
                  rotate_left
                  · intro wq hSw; (try dsimp only at hSw); go_simp; (try with_reducible rfl)
                  try simp only [Act.put, List.setIfInBounds_toArray, List.set_cons_zero, List.set_cons_succ]
                  refine wpAnyH_take (i := 20) (oi := { dst := some 40, op := Go.Op.fieldAddr 97 (Go.Operand.tmp 39) 0, type := 0, pos := "prov.go:30", after := #[{ on := 19, ground := Go.Ground.data }, { on := 13, ground := Go.Ground.guard }], guard := some (13, true) }) (v := ?_) rfl (by kernel_rfl) (by kernel_rfl) (by kernel_rfl) (fun _ _ _ h => h) (Or.inl ⟨by rfl, ?_⟩) (by assumption) ?_
                  rotate_left
                  · intro wq hSw; (try dsimp only at hSw); go_simp; (try with_reducible rfl)
                  try simp only [Act.put, List.setIfInBounds_toArray, List.set_cons_zero, List.set_cons_succ]
                  refine wpAnyH_take (i := 21) (oi := { dst := some 41, op := Go.Op.load 36 (Go.Operand.tmp 40), type := 36, pos := "prov.go:30", after := #[{ on := 20, ground := Go.Ground.data }, { on := 13, ground := Go.Ground.guard }], guard := some (13, true) }) (v := ?_) rfl (by kernel_rfl) (by kernel_rfl) (by kernel_rfl) (fun _ _ _ h => h) (Or.inl ⟨by rfl, ?_⟩) (by assumption) ?_
                  rotate_left
                  · intro wq hSw; (try dsimp only at hSw); go_simp; (try with_reducible rfl)
                  try simp only [Act.put, List.setIfInBounds_toArray, List.set_cons_zero, List.set_cons_succ]
                  refine wpAnyH_ready (rs := [22]) (by kernel_rfl) (by simp) ?_
                  refine AllReadyH.cons (o := { dst := some 42, op := Go.Op.call { callee := Go.Callee.value (Go.Operand.func 65), args := #[Go.Operand.tmp 35, Go.Operand.tmp 41], argTypes := #[36, 36] }, type := 3, pos := "prov.go:30", after := #[{ on := 15, ground := Go.Ground.data }, { on := 21, ground := Go.Ground.data }, { on := 13, ground := Go.Ground.chain }, { on := 13, ground := Go.Ground.guard }], guard := some (13, true) }) rfl (fun K hK => ?_) ?_
                  rotate_left
                  · exact AllReadyH.nil
                  go_simp
                  refine (HC.out _).mono ?_
                  rintro e w4 ⟨rfl, hb4⟩
                  have hw4 : Below w.heap.size w w4 := stepH hw3 hb4
                  replace x0 : w4.cell? ⟨wr.heap.size, 0, none⟩ = some (.int .i64 p.num) := cellOf hb4 x0
                  replace x1 : w4.cell? ⟨wr.heap.size, 1, none⟩ = some (.int .i64 (p.den : Int)) := cellOf hb4 x1
                  replace x2 : w4.cell? ⟨wr.heap.size, 2, none⟩ = some (.int .i64 n2) := cellOf hb4 x2
                  replace x3 : w4.cell? ⟨wr.heap.size, 3, none⟩ = some (.int .i64 d2) := cellOf hb4 x3
                  replace y0 : w4.cell? ⟨g, off + j * 4, none⟩ = some (.int .i64 q.num) := cellOf hb4 y0
                  replace y1 : w4.cell? ⟨g, off + j * 4 + 1, none⟩ = some (.int .i64 (q.den : Int)) := cellOf hb4 y1
                  clear hb4
                  go_wp2_with fail
                  refine hK.out _ _ ?_ (fun hH3 => ?_)
                  · (try dsimp only); exact ⟨x0, x1, x2, x3, y0, y1⟩
                  clear hK K
                  clear hH2
                  try simp only [Act.put, List.setIfInBounds_toArray, List.set_cons_zero, List.set_cons_succ]
                  refine wpAnyH_take (i := 23) (oi := { dst := some 43, op := Go.Op.binOp Go.BinOp.leq 3 (Go.Operand.tmp 42) (Go.Operand.const (Go.Value.int Go.IntKind.i64 0)) 3, type := 4, pos := "prov.go:30", after := #[{ on := 22, ground := Go.Ground.data }, { on := 13, ground := Go.Ground.guard }], guard := some (13, true) }) (v := ?_) rfl (by kernel_rfl) (by kernel_rfl) (by kernel_rfl) (fun _ _ _ h => h) (Or.inl ⟨by rfl, ?_⟩) (by assumption) ?_
                  rotate_left
                  · intro wq hSw; (try dsimp only at hSw); go_simp; (try with_reducible rfl)
                  try simp only [Act.put, List.setIfInBounds_toArray, List.set_cons_zero, List.set_cons_succ]
                  refine wpAnyH_take (i := 24) (oi := { dst := some 44, op := Go.Op.pick (Go.Operand.tmp 33) (Go.Operand.tmp 43) (Go.Operand.const (Go.Value.bool false)), type := 4, pos := "prov.go:30", after := #[{ on := 13, ground := Go.Ground.data }, { on := 23, ground := Go.Ground.data }, { on := 10, ground := Go.Ground.guard }], guard := some (10, false) }) (v := ?_) rfl (by kernel_rfl) (by kernel_rfl) (by kernel_rfl) (fun _ _ _ h => h) (Or.inl ⟨by rfl, ?_⟩) (by assumption) ?_
                  rotate_left
                  · intro wq hSw; (try dsimp only at hSw); go_simp; (try with_reducible rfl)
                  try simp only [Act.put, List.setIfInBounds_toArray, List.set_cons_zero, List.set_cons_succ]
                  refine wpAnyH_take (i := 25) (oi := { dst := some 45, op := Go.Op.pick (Go.Operand.tmp 30) (Go.Operand.const (Go.Value.bool true)) (Go.Operand.tmp 44), type := 4, pos := "prov.go:30", after := #[{ on := 10, ground := Go.Ground.data }, { on := 24, ground := Go.Ground.data }], guard := none }) (v := ?_) rfl (by kernel_rfl) (by kernel_rfl) (by kernel_rfl) (fun _ _ _ h => h) (Or.inl ⟨by rfl, ?_⟩) (by assumption) ?_
                  rotate_left
                  · intro wq hSw; (try dsimp only at hSw); go_simp; (try with_reducible rfl)
                  try simp only [Act.put, List.setIfInBounds_toArray, List.set_cons_zero, List.set_cons_succ]
                  refine wpAnyH_done (by kernel_rfl) ?_ _
                  go_wp2_with fail
                  go_ret
                  exact ⟨by rw [scaleB_bad hlt HB.out]; rfl, hw4⟩
        · obtain rfl : k = l.length := by omega
          have HR : Hid (scaleB l = true) := Lib.hid (scaleB_ok (by omega) (by omega) HK.out)
          have hlt2 : ¬ (l.length : Int) < (l.length : Int) := by omega
          clear h0 h1 hlt
          go_wp2_with fail
          go_ret
          exact ⟨by rw [HR.out]; rfl, hw0⟩
end Go.Proofs.YtngckppnaflciaaDoor
