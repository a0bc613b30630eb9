/- Items sorted by names (slices.SortFunc): the plain law, the walk. -/
import Derived.Test.YtmoeoomlggjaaaaGreatDoorAmM
import Derived.Test.YtmoeoomlggjaaaaGreatDoorDaySort
namespace Go.Proofs.YtmoeoomlggjaaaaGreatDoor
open Go.RowKit Go.Maps

theorem cmpB_lt : ∀ a b : List UInt8, (Lib.compareBytes a b < 0) ↔ a < b
  | [], [] => by simp [Lib.compareBytes]
  | [], _ :: _ => by simp [Lib.compareBytes]
  | _ :: _, [] => by simp [Lib.compareBytes]
  | a :: r, b :: t => by
    unfold Lib.compareBytes
    rw [List.cons_lt_cons_iff]
    by_cases h1 : a < b
    · rw [if_pos h1]; simp [h1]
    · rw [if_neg h1]
      by_cases h2 : b < a
      · rw [if_pos h2]
        constructor
        · intro h; omega
        · rintro (h | ⟨rfl, _⟩)
          · exact absurd h h1
          · exact absurd h2 h1
      · rw [if_neg h2]
        have e : a = b := UInt8.le_antisymm (UInt8.not_lt.1 h2) (UInt8.not_lt.1 h1)
        subst e
        rw [cmpB_lt r t]
        simp [h1]
def cmpI (x y : It) : Int := Lib.compareBytes (itb x) (itb y)
instance : Inhabited It := ⟨⟨⟨#[]⟩, 0, 0⟩⟩
theorem ltI (x y : It) : ltOf cmpI x y = decide (itb x < itb y) := by
  unfold ltOf cmpI
  by_cases h : itb x < itb y
  · rw [decide_eq_true h]; exact decide_eq_true ((cmpB_lt _ _).2 h)
  · rw [decide_eq_false h]; exact decide_eq_false (fun q => h ((cmpB_lt _ _).1 q))
theorem swoI : Sort.SWO (ltOf cmpI) where
  irrefl x := by rw [ltI]; simp [List.lt_irrefl]
  trans x y z h1 h2 := by rw [ltI] at *; simp only [decide_eq_true_eq] at *; exact List.lt_trans h1 h2
  ntrans x y z h1 h2 := by
    rw [ltI] at *
    simp only [decide_eq_false_iff_not] at *
    rw [List.not_lt] at *
    exact List.le_trans h2 h1
theorem getI {d : Array It} {i : Nat} {p : It} (h : d.toList[i]? = some p) : d[i]! = p := by
  have hi : i < d.size := by
    rcases Nat.lt_or_ge i d.size with h1 | h1
    · exact h1
    · rw [List.getElem?_eq_none (by simpa using h1)] at h; cases h
  rw [List.getElem?_eq_getElem (by simpa using hi)] at h
  rw [getElem!_pos d i hi]
  simpa using h
theorem holds_rowI {w : World} {B g : Nat} {d : Array It} (h : RowAt itL 3 w B (some ⟨g, 0, none⟩) d.toList) (hf : ∀ o, w.frozen? ⟨g, o, none⟩ = false) : Sort.HoldsK itL 3 w g 0 d := by
  intro j hj
  rw [Sort.size_flatK] at hj
  rw [Sort.get_flatK _ _ _ _ hj]
  refine ⟨?_, hf _⟩
  have hi : j / 3 < d.size := by omega
  obtain ⟨p, hp⟩ : ∃ p, d.toList[j / 3]? = some p := ⟨_, List.getElem?_eq_getElem (by simpa using hi)⟩
  obtain ⟨g', off, e, _, hc⟩ := h (j / 3) p hp
  injection e with e
  injection e with e1 e2
  subst e1 e2
  have hm : j % 3 < (itL p).length := by rw [itL_len]; omega
  have := hc (j % 3) _ (List.getElem?_eq_getElem hm)
  rw [show 0 + j / 3 * 3 + j % 3 = 0 + j by omega] at this
  rw [this, getI hp, getElem!_pos (itL p) _ hm]
  rfl
theorem row_holdsI {w : World} {g : Nat} {d : Array It} (hg : g < w.heap.size) (h : Sort.HoldsK itL 3 w g 0 d) : RowAt itL 3 w w.heap.size (some ⟨g, 0, none⟩) d.toList := by
  intro k p hp
  refine ⟨g, 0, rfl, hg, fun j u hj => ?_⟩
  have hk : k < d.size := by
    rcases Nat.lt_or_ge k d.size with h1 | h1
    · exact h1
    · rw [List.getElem?_eq_none (by simpa using h1)] at hp; cases hp
  have hj2 : j < 3 := by have := (List.getElem?_eq_some_iff.1 hj).1; rw [itL_len] at this; exact this
  have := (h.cell hk hj2).1
  rw [this, getI hp, getElem!_pos (itL p) j (by rw [itL_len]; exact hj2), ← hj, List.getElem?_eq_getElem]
theorem grown_sortedI {w : World} {g n : Nat} {os : Array Obj} (d : Array It) : w.grownBy (sortWorldK itL 3 w g 0 n d os) (some g) := by
  unfold sortWorldK Sort.putRowK
  refine ⟨rfl, rfl, rfl, by simp, fun k hk hne => ?_⟩
  rw [Sort.heap_grow_old _ _ (by simpa using hk)]
  have : g ≠ k := fun e => hne (by rw [e])
  simp [Sort.putRow, Sort.mapBlock, Sort.ahead, Array.getElem?_modify, this]
theorem obj_sortedI {w : World} {g n : Nat} {os : Array Obj} (d : Array It) {cur : Array Value} {e : TypeId} (h : w.heap[g]? = some (.cells cur e (0, 0))) : ∃ cur', (sortWorldK itL 3 w g 0 n d os).heap[g]? = some (.cells cur' e (0, 0)) ∧ cur'.size = cur.size := by
  have hk := (Array.getElem?_eq_some_iff.1 h).1
  refine ⟨Sort.putCells id 0 (Sort.flatK itL 3 d) cur, ?_, by simp [Sort.putCells]⟩
  unfold sortWorldK Sort.putRowK
  rw [Sort.heap_grow_old _ _ (by simpa [Sort.putRow, Sort.mapBlock, Sort.ahead] using hk)]
  simp [Sort.putRow, Sort.mapBlock, Sort.ahead, Array.getElem?_modify, h, Sort.onCells]
theorem own_of_row {α : Type} {enc : α → List Value} {size e base g cap : Nat} {w : World} {cur : Array Value} {l : List α} {B : Nat} (hs : ∀ x, (enc x).length = size) (h : w.heap[g]? = some (.cells cur e (0, 0))) (hb : base ≤ g) (h1 : l.length ≤ cap) (h2 : cap ≤ maxLen) (h3 : cur.size = cap * size) (hr : RowAt enc size w B (some ⟨g, 0, none⟩) l) : Own enc size e base w (.slice (some ⟨g, 0, none⟩) l.length cap) l := by
  refine ⟨flat_len (fun x _ => hs x), .inr ⟨g, cap, cur, rfl, hb, h, h1, h2, h3, ?_⟩⟩
  have hle : l.length * size ≤ cur.size := by rw [h3]; exact Nat.mul_le_mul_right _ h1
  apply List.ext_getElem?
  intro i
  rw [List.getElem?_take]
  by_cases hi : i < l.length * size
  · rw [if_pos hi]
    have hz : 0 < size := by rcases Nat.eq_zero_or_pos size with h0 | h0; · subst h0; simp at hi
                             · exact h0
    have hk : i / size < l.length := Nat.div_lt_of_lt_mul (by rw [Nat.mul_comm]; exact hi)
    have hm : i % size < size := Nat.mod_lt _ hz
    have hx : l[i / size]? = some l[i / size] := List.getElem?_eq_getElem hk
    have hj : (enc l[i / size])[i % size]? = some ((enc l[i / size])[i % size]'(by rw [hs]; exact hm)) := List.getElem?_eq_getElem _
    have hf := flat_at (fun x _ => hs x) hx hj
    obtain ⟨g', off, e', _, hc⟩ := hr _ _ hx
    cases e'
    have := hc _ _ hj
    have ei : i / size * size + i % size = i := by rw [Nat.mul_comm]; exact Nat.div_add_mod i size
    rw [Nat.zero_add, ei] at this
    rw [ei] at hf
    rw [hf, ← this, cell_of_row w g _ cur e (0, 0) h]
    simp
  · rw [if_neg hi, List.getElem?_eq_none (by rw [flat_len (fun x _ => hs x)]; omega)]
theorem perm_sortedI {d d' : Array It} (h : Sort.PermIn 0 d.size d d') : d'.toList.Perm d.toList := by
  obtain ⟨h1, _, h2⟩ := h
  have e1 : d.extract 0 d.size = d := by simp
  have e2 : d'.extract 0 d.size = d' := by rw [← h1]; simp
  rw [e1, e2] at h2
  exact h2
theorem pairs_sortedI {d d' : Array It} (hs : d'.size = d.size) (h : Sort.SortedIn (ltOf cmpI) 0 d.size d') : d'.toList.Pairwise (fun a b => leB (itb a) (itb b) = true) := by
  rw [List.pairwise_iff_getElem]
  intro i j hi hj hij
  have hj' : j < d'.size := by simpa using hj
  have hi' : i < d'.size := by simpa using hi
  have := h i j (Nat.zero_le _) hij (by omega)
  rw [ltI, decide_eq_false_iff_not, getElem!_pos d' j hj', getElem!_pos d' i hi'] at this
  simp only [Array.getElem_toList]
  exact decide_eq_true (List.not_lt.1 this)

set_option maxRecDepth 100000 in
set_option maxHeartbeats 1000000 in
theorem cmpI_any (x y : It) (W : World) : Calls Tryz.prog 36 #[.agg (itL x).toArray, .agg (itL y).toArray] W fun e w' => e = .returned (.int .i64 (cmpI x y)) ∧ ∃ q os', w' = Sort.grow (W.drewN q) os' := by
  have HS := Lib.hid (fun W => Tryz.strings_Compare x.name y.name W)
  unfold cmpI itb
  show Calls Tryz.prog 36 #[.agg #[.string x.name, .int .i64 x.n, .int .i64 x.d], .agg #[.string y.name, .int .i64 y.n, .int .i64 y.d]] W _
  go_enter Tryz.func36, Tryz.ntmps36
  go_wp2_with fail
  refine (HS.out _).mono ?_
  rintro e w1 ⟨rfl, rfl⟩
  go_wp2_with fail
  go_ret
  exact ⟨rfl, 0, _, by rw [Sort.alloc_eq_grow, Sort.alloc_eq_grow, Sort.grow_grow]; rfl⟩

theorem aggIt : ∀ w, (isAgg 53).run Tryz.prog w = .ok true w := Tryz.isAgg53
theorem sizeIt : ∀ w, (Go.sizeOf 53).run Tryz.prog w = .ok 3 w := Tryz.sizeOf53

theorem sortI_any (l : List It) (A : Option Addr) (c base : Nat) (w : World) (hown : Own itL 3 53 base w (.slice A l.length c) l) (hm : l.length ≤ 1000000) (hb : base ≤ w.heap.size) :
    Calls Tryz.prog 35 #[.slice A l.length c, .func (.func 36) #[] #[]] w fun e w' => (e = .returned (.tuple #[]) ∧ ∃ rs : List It, rs.length = l.length ∧ Own itL 3 53 base w' (.slice A l.length c) rs ∧ rs.Perm l ∧ rs.Pairwise (fun a b => leB (itb a) (itb b) = true)) ∧ Below base w w' := by
  by_cases h0 : l = []
  · subst h0
    refine (Tryz.slices_SortFunc_none (α := It) A c _ w).mono ?_
    rintro e w' ⟨rfl, rfl⟩
    exact ⟨⟨rfl, [], rfl, hown, List.Perm.refl _, List.Pairwise.nil⟩, Below.refl _ _⟩
  · obtain ⟨g, c', e, hg, hc, hrow, hf⟩ := own_cells (fun x _ => itL_len x) h0 hown
    cases e
    have hlt : g < w.heap.size := (hown.lt g rfl).2
    obtain ⟨_, hcc⟩ := hown
    rcases hcc with ⟨h1, _⟩ | ⟨g', cap', cur, hv', _, hobj, h4, h5, h6, _⟩
    · cases h1
    cases hv'
    have eg : ∀ args w, (callFunc 36 args).run Tryz.prog w = .ok (.enter 36 args) w := enters_of Tryz.func36 (by kernel_rfl) rfl
    have hs : l.toArray.size = l.length := by simp
    have hH : Sort.HoldsK itL 3 w g 0 l.toArray := holds_rowI hrow hf
    have hcon := Tryz.slices_SortFunc 3 aggIt sizeIt itL itL_len (fun x v hv => by simp [itL] at hv; rcases hv with rfl | rfl | rfl <;> rfl) cmpI swoI 36 #[] g 0 c l.toArray w eg (fun _ _ _ _ x y => cmpI_any x y _) hH hlt (by rw [hs]; omega)
    rw [hs] at hcon
    refine hcon.mono ?_
    rintro e w' ⟨rfl, d', n, os, hp, hso, rfl⟩
    have hp' : Sort.PermIn 0 l.toArray.size l.toArray d' := by rw [hs]; exact hp
    have hso' : Sort.SortedIn (ltOf cmpI) 0 l.toArray.size d' := by rw [hs]; exact hso
    have hz : d'.size = l.toArray.size := hp'.1
    have hgr := grown_sortedI (w := w) (g := g) (n := n) (os := os) d'
    have hperm : d'.toList.Perm l := perm_sortedI hp'
    have hlen : d'.toList.length = l.length := hperm.length_eq
    obtain ⟨cur', ho', hs'⟩ := obj_sortedI (n := n) (os := os) d' hobj
    refine ⟨⟨rfl, d'.toList, hlen, ?_, hperm, pairs_sortedI hz hso'⟩, Below.grown (Below.refl _ _) hgr hb (fun k e => by cases e; exact hg)⟩
    have hrw := row_holdsI (Nat.lt_of_lt_of_le hlt hgr.size) (holdsK_sortWorldK_c itL 3 w g 0 l.toArray d' n os hH hlt hz)
    have := own_of_row itL_len ho' hg (by rw [hlen]; exact hc) h5 (by rw [hs']; exact h6) hrw
    rwa [hlen] at this
end Go.Proofs.YtmoeoomlggjaaaaGreatDoor
