/- Fractions sorted by the library: no walk but that of Cmp. -/
import Derived.Test.YtmankldedhgdiaaDoorSoC
import Derived.Test.YtmankldedhgdiaaDoorDaySort
namespace Go.Proofs.YtmankldedhgdiaaDoor
open Go.RowKit

def encG (x : GQ) : List Value := encF (fq x.1)
def cmpG (x y : GQ) : Int := cmpQ x.1 y.1
instance : Inhabited GQ := ⟨⟨0, good_zero⟩⟩
theorem ltG (x y : GQ) : ltOf cmpG x y = decide (x.1 < y.1) := by
  unfold ltOf cmpG
  by_cases h : x.1 < y.1
  · rw [cmp_lt h, decide_eq_true h]; rfl
  · rw [decide_eq_false h]
    have := cmp_ge h
    exact decide_eq_false (by omega)
theorem swoG : Sort.SWO (ltOf cmpG) where
  irrefl x := by rw [ltG]; simp [Rat.lt_irrefl]
  trans x y z h1 h2 := by rw [ltG] at *; simp only [decide_eq_true_eq] at *; grind
  ntrans x y z h1 h2 := by rw [ltG] at *; simp only [decide_eq_false_iff_not] at *; grind
def arrG (l : List Rat) (hv : ∀ q ∈ l, Good q) : Array GQ := (l.attachWith _ hv).toArray
theorem arrG_size {l : List Rat} (hv : ∀ q ∈ l, Good q) : (arrG l hv).size = l.length := by simp [arrG]
theorem arrG_list {l : List Rat} (hv : ∀ q ∈ l, Good q) : (arrG l hv).toList.map (·.1) = l := by simp [arrG]
theorem mapGetG {d : Array GQ} {i : Nat} {p : Int × Int} (h : ((d.toList.map (·.1)).map fq)[i]? = some p) : fq (d[i]!).1 = p := by
  rw [List.map_map, List.getElem?_map] at h
  have hi : i < d.size := by
    rcases Nat.lt_or_ge i d.size with h1 | h1
    · exact h1
    · rw [List.getElem?_eq_none (by simpa using h1)] at h; cases h
  rw [List.getElem?_eq_getElem (by simpa using hi)] at h
  rw [getElem!_pos d i hi]
  simpa using h
theorem holds_rowG {w : World} {B g : Nat} {d : Array GQ} (h : RowAt encF 2 w B (some ⟨g, 0, none⟩) ((d.toList.map (·.1)).map fq)) (hf : ∀ o, w.frozen? ⟨g, o, none⟩ = false) : Sort.HoldsK encG 2 w g 0 d := by
  intro j hj
  rw [Sort.size_flatK] at hj
  rw [Sort.get_flatK _ _ _ _ hj]
  refine ⟨?_, hf _⟩
  have hi : j / 2 < d.size := by omega
  obtain ⟨p, hp⟩ : ∃ p, ((d.toList.map (·.1)).map fq)[j / 2]? = some p := ⟨_, List.getElem?_eq_getElem (by simpa using hi)⟩
  obtain ⟨g', off, e, _, hc⟩ := h (j / 2) p hp
  injection e with e
  injection e with e1 e2
  subst e1 e2
  have hm : j % 2 < (encF p).length := by rw [encF_len]; omega
  have := hc (j % 2) _ (List.getElem?_eq_getElem hm)
  rw [show 0 + j / 2 * 2 + j % 2 = 0 + j by omega] at this
  rw [this]
  unfold encG
  rw [mapGetG hp, getElem!_pos (encF p) _ hm]
  rfl
theorem row_holdsG {w : World} {g : Nat} {d : Array GQ} (hg : g < w.heap.size) (h : Sort.HoldsK encG 2 w g 0 d) : RowAt encF 2 w w.heap.size (some ⟨g, 0, none⟩) ((d.toList.map (·.1)).map fq) := by
  intro k p hp
  refine ⟨g, 0, rfl, hg, fun j u hj => ?_⟩
  have hk : k < d.size := by
    rcases Nat.lt_or_ge k d.size with h1 | h1
    · exact h1
    · rw [List.getElem?_eq_none (by simpa using h1)] at hp; cases hp
  have hj2 : j < 2 := by have := (List.getElem?_eq_some_iff.1 hj).1; rw [encF_len] at this; exact this
  have := (h.cell hk hj2).1
  rw [this]
  unfold encG
  rw [mapGetG hp, getElem!_pos (encF p) j (by rw [encF_len]; exact hj2), ← hj, List.getElem?_eq_getElem]
theorem grown_sortedG {w : World} {g n : Nat} {os : Array Obj} (d : Array GQ) : w.grownBy (sortWorldK encG 2 w g 0 n d os) (some g) := by
  unfold sortWorldK Sort.putRowK
  refine ⟨rfl, rfl, rfl, by simp, fun k hk hne => ?_⟩
  rw [Sort.heap_grow_old _ _ (by simpa using hk)]
  have : g ≠ k := fun e => hne (by rw [e])
  simp [Sort.putRow, Sort.mapBlock, Sort.ahead, Array.getElem?_modify, this]
theorem obj_sortedG {w : World} {g n : Nat} {os : Array Obj} (d : Array GQ) {cur : Array Value} {e : TypeId} (h : w.heap[g]? = some (.cells cur e (0, 0))) : ∃ cur', (sortWorldK encG 2 w g 0 n d os).heap[g]? = some (.cells cur' e (0, 0)) ∧ cur'.size = cur.size := by
  have hk := (Array.getElem?_eq_some_iff.1 h).1
  refine ⟨Sort.putCells id 0 (Sort.flatK encG 2 d) cur, ?_, by simp [Sort.putCells]⟩
  unfold sortWorldK Sort.putRowK
  rw [Sort.heap_grow_old _ _ (by simpa [Sort.putRow, Sort.mapBlock, Sort.ahead] using hk)]
  simp [Sort.putRow, Sort.mapBlock, Sort.ahead, Array.getElem?_modify, h, Sort.onCells]
theorem own_of_row {α : Type} {enc : α → List Value} {size e base g cap : Nat} {w : World} {cur : Array Value} {l : List α} {B : Nat} (hs : ∀ x, (enc x).length = size) (h : w.heap[g]? = some (.cells cur e (0, 0))) (hb : base ≤ g) (h1 : l.length ≤ cap) (h2 : cap ≤ maxLen) (h3 : cur.size = cap * size) (hr : RowAt enc size w B (some ⟨g, 0, none⟩) l) : Own enc size e base w (.slice (some ⟨g, 0, none⟩) l.length cap) l := by
  refine ⟨flat_len (fun x _ => hs x), .inr ⟨g, cap, cur, rfl, hb, h, h1, h2, h3, ?_⟩⟩
  have hle : l.length * size ≤ cur.size := by rw [h3]; exact Nat.mul_le_mul_right _ h1
  apply List.ext_getElem?
  intro i
  rw [List.getElem?_take]
  by_cases hi : i < l.length * size
  · rw [if_pos hi]
    have hz : 0 < size := by rcases Nat.eq_zero_or_pos size with h0 | h0; · subst h0; simp at hi
                             · exact h0
    have hk : i / size < l.length := Nat.div_lt_of_lt_mul (by rw [Nat.mul_comm]; exact hi)
    have hm : i % size < size := Nat.mod_lt _ hz
    have hx : l[i / size]? = some l[i / size] := List.getElem?_eq_getElem hk
    have hj : (enc l[i / size])[i % size]? = some ((enc l[i / size])[i % size]'(by rw [hs]; exact hm)) := List.getElem?_eq_getElem _
    have hf := flat_at (fun x _ => hs x) hx hj
    obtain ⟨g', off, e', _, hc⟩ := hr _ _ hx
    cases e'
    have := hc _ _ hj
    have ei : i / size * size + i % size = i := by rw [Nat.mul_comm]; exact Nat.div_add_mod i size
    rw [Nat.zero_add, ei] at this
    rw [ei] at hf
    rw [hf, ← this, cell_of_row w g _ cur e (0, 0) h]
    simp
  · rw [if_neg hi, List.getElem?_eq_none (by rw [flat_len (fun x _ => hs x)]; omega)]
theorem perm_sortedG {d d' : Array GQ} (h : Sort.PermIn 0 d.size d d') : (d'.toList.map (·.1)).Perm (d.toList.map (·.1)) := by
  obtain ⟨h1, _, h2⟩ := h
  have e1 : d.extract 0 d.size = d := by simp
  have e2 : d'.extract 0 d.size = d' := by rw [← h1]; simp
  rw [e1, e2] at h2
  exact h2.map _
theorem pairs_sortedG {d d' : Array GQ} (hs : d'.size = d.size) (h : Sort.SortedIn (ltOf cmpG) 0 d.size d') : (d'.toList.map (·.1)).Pairwise (fun a b => a ≤ b) := by
  rw [List.pairwise_map, List.pairwise_iff_getElem]
  intro i j hi hj hij
  have hj' : j < d'.size := by simpa using hj
  have hi' : i < d'.size := by simpa using hi
  have := h i j (Nat.zero_le _) hij (by omega)
  rw [ltG, decide_eq_false_iff_not, getElem!_pos d' j hj', getElem!_pos d' i hi'] at this
  simp only [Array.getElem_toList]
  exact Rat.not_lt.1 this

set_option maxHeartbeats 1000000 in
theorem cmpG_any (x y : GQ) (W : World) : Calls Tryd.prog 43 #[.agg (encG x).toArray, .agg (encG y).toArray] W fun e w' => e = .returned (.int .i64 (cmpG x y)) ∧ ∃ q os', w' = Sort.grow (W.drewN q) os' := by
  obtain ⟨p, hp⟩ := x
  obtain ⟨q, hq⟩ := y
  obtain ⟨a1, a2, a3, a4⟩ := num_le hp
  obtain ⟨b1, b2, b3, b4⟩ := num_le hq
  have c1 := prod_le a1 a2 b3 b4
  have c2 := prod_le b1 b2 a3 a4
  have hfin : cmpQ p q = if p.num * q.den < q.num * p.den then -1 else if q.num * p.den < p.num * q.den then 1 else 0 := by
    unfold cmpQ; simp only [Rat.lt_iff]
  have HF := Lib.hid hfin
  clear hfin
  show Calls Tryd.prog 43 #[.agg #[.int .i64 p.num, .int .i64 p.den], .agg #[.int .i64 q.num, .int .i64 q.den]] W fun e w' => e = .returned (.int .i64 (cmpQ p q)) ∧ ∃ q os', w' = Sort.grow (W.drewN q) os'
  go_enter Tryd.func43, Tryd.ntmps43
  go_wp2
  go_quiet (fail)
  go_wp2
  · go_ret
    exact ⟨ret_int (by rw [HF.out, if_pos (by assumption)]), _, _, by rw [Sort.alloc_eq_grow, Sort.alloc_eq_grow, Sort.grow_grow]; rfl⟩
  · go_ret
    exact ⟨ret_int (by rw [HF.out, if_neg (by omega), if_pos (by assumption)]), _, _, by rw [Sort.alloc_eq_grow, Sort.alloc_eq_grow, Sort.grow_grow]; rfl⟩
  · go_ret
    exact ⟨ret_int (by rw [HF.out, if_neg (by omega), if_neg (by omega)]), _, _, by rw [Sort.alloc_eq_grow, Sort.alloc_eq_grow, Sort.grow_grow]; rfl⟩

theorem aggFr : ∀ w, (isAgg 24).run Tryd.prog w = .ok true w := Tryd.isAgg24
theorem sizeFr : ∀ w, (Go.sizeOf 24).run Tryd.prog w = .ok 2 w := Tryd.sizeOf24

theorem sortG_any (l : List Rat) (A : Option Addr) (c base : Nat) (w : World) (hown : Own encF 2 24 base w (.slice A l.length c) (l.map fq)) (hm : l.length ≤ 1000000) (hv : ∀ q ∈ l, Good q) (hb : base ≤ w.heap.size) :
    Calls Tryd.prog 48 #[.slice A l.length c, .func (.func 43) #[] #[]] w fun e w' => (e = .returned (.tuple #[]) ∧ ∃ rs : List Rat, rs.length = l.length ∧ Own encF 2 24 base w' (.slice A l.length c) (rs.map fq) ∧ rs.Perm l ∧ rs.Pairwise (fun a b => a ≤ b)) ∧ Below base w w' := by
  by_cases h0 : l = []
  · subst h0
    refine (Tryd.slices_SortFunc_none (α := GQ) A c _ w).mono ?_
    rintro e w' ⟨rfl, rfl⟩
    exact ⟨⟨rfl, [], rfl, hown, List.Perm.refl _, List.Pairwise.nil⟩, Below.refl _ _⟩
  · have hl2 : ((l.map fq).length) = l.length := List.length_map _
    obtain ⟨g, c', e, hg, hc, hrow, hf⟩ := own_cellsS (fun x _ => encF_len x) (by simpa using h0) hown
    rw [hl2] at e hc
    cases e
    have hlt : g < w.heap.size := (hown.lt g rfl).2
    obtain ⟨_, hcc⟩ := hown
    rcases hcc with ⟨h1, _⟩ | ⟨g', cap', cur, hv', _, hobj, h4, h5, h6, _⟩
    · cases h1
    rw [hl2] at hv'
    cases hv'
    have eg : ∀ args w, (callFunc 43 args).run Tryd.prog w = .ok (.enter 43 args) w := enters_of Tryd.func43 (by kernel_rfl) rfl
    have hs := arrG_size hv
    have hH : Sort.HoldsK encG 2 w g 0 (arrG l hv) := holds_rowG (by rw [arrG_list]; exact hrow) hf
    have hcon := Tryd.slices_SortFunc 2 aggFr sizeFr encG (fun x => encF_len _) (fun x v hv => by simp [encG, encF] at hv; rcases hv with rfl | rfl <;> rfl) cmpG swoG 43 #[] g 0 c (arrG l hv) w eg (fun _ _ _ _ x y => cmpG_any x y _) hH hlt (by rw [hs]; omega)
    rw [hs] at hcon
    refine hcon.mono ?_
    rintro e w' ⟨rfl, d', n, os, hp, hso, rfl⟩
    have hp' : Sort.PermIn 0 (arrG l hv).size (arrG l hv) d' := by rw [hs]; exact hp
    have hso' : Sort.SortedIn (ltOf cmpG) 0 (arrG l hv).size d' := by rw [hs]; exact hso
    have hz : d'.size = (arrG l hv).size := hp'.1
    have hgr := grown_sortedG (w := w) (g := g) (n := n) (os := os) d'
    have hperm := perm_sortedG hp'
    rw [arrG_list] at hperm
    have hlen : (d'.toList.map (·.1)).length = l.length := hperm.length_eq
    obtain ⟨cur', ho', hs'⟩ := obj_sortedG (n := n) (os := os) d' hobj
    refine ⟨⟨rfl, d'.toList.map (·.1), hlen, ?_, hperm, pairs_sortedG hz hso'⟩, Below.grown (Below.refl _ _) hgr hb (fun k e => by cases e; exact hg)⟩
    have hrw := row_holdsG (Nat.lt_of_lt_of_le hlt hgr.size) (holdsK_sortWorldK_c encG 2 w g 0 (arrG l hv) d' n os hH hlt hz)
    have := own_of_row encF_len ho' hg (by rw [List.length_map, hlen]; exact hc) h5 (by rw [hs']; exact h6) hrw
    rwa [List.length_map, hlen] at this

end Go.Proofs.YtmankldedhgdiaaDoor
