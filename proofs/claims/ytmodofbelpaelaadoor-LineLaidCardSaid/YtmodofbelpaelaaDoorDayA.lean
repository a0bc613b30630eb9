/- Spans in memory, and sorted by the library: no walk. -/
import Derived.Test.YtmodofbelpaelaaDoorLineC
import Derived.Test.YtmodofbelpaelaaDoorDayL
import Derived.Test.YtmodofbelpaelaaDoorDaySort
namespace Go.Proofs.YtmodofbelpaelaaDoor
open Go.RowKit

def encU (p : Pc Unit) : List Value := [.int .i64 p.f, .int .i64 p.t]
theorem encU_len (p : Pc Unit) : (encU p).length = 2 := rfl
theorem encU_one (l : List (Pc Unit)) : ∀ u ∈ l.flatMap encU, u.oneCell' = true := by
  intro u hu
  obtain ⟨b, _, hb⟩ := List.mem_flatMap.1 hu
  simp only [encU, List.mem_cons, List.not_mem_nil, or_false] at hb
  rcases hb with rfl | rfl <;> rfl
theorem encU_flat (l : List (Pc Unit)) : (l.flatMap encU).length = l.length * 2 := flat_len (fun x _ => encU_len x)

theorem cells2 {w : World} {B k : Nat} {A : Option Addr} {l : List (Pc Unit)} {p : Pc Unit} (h : RowAt encU 2 w B A l) (hp : l[k]? = some p) : ∃ g off, A = some ⟨g, off, none⟩ ∧ g < B ∧
    w.cell? ⟨g, off + k * 2, none⟩ = some (.int .i64 p.f) ∧ w.cell? ⟨g, off + k * 2 + 1, none⟩ = some (.int .i64 p.t) := by
  obtain ⟨g, off, rfl, hg, hc⟩ := h k p hp
  exact ⟨g, off, rfl, hg, hc 0 _ rfl, hc 1 _ rfl⟩

/-- spans that are in order -/
abbrev VS := {p : Pc Unit // ValidS MD p}
instance : Inhabited VS := ⟨⟨⟨0, 1, ()⟩, by decide, by decide, by decide⟩⟩
def encV (x : VS) : List Value := encU x.1
def cmpV (x y : VS) : Int := x.1.f - y.1.f

theorem ltV (x y : VS) : ltOf cmpV x y = decide (x.1.f < y.1.f) := by
  unfold ltOf cmpV
  by_cases h : x.1.f < y.1.f
  · rw [decide_eq_true h, decide_eq_true (by omega)]
  · rw [decide_eq_false h, decide_eq_false (by omega)]
theorem swoV : Sort.SWO (ltOf cmpV) where
  irrefl x := by rw [ltV]; simp
  trans x y z h1 h2 := by rw [ltV] at *; simp at *; omega
  ntrans x y z h1 h2 := by rw [ltV] at *; simp at *; omega

def arrV (l : List (Pc Unit)) (hv : ∀ p ∈ l, ValidS MD p) : Array VS := (l.attachWith _ hv).toArray
theorem arrV_size {l : List (Pc Unit)} (hv : ∀ p ∈ l, ValidS MD p) : (arrV l hv).size = l.length := by simp [arrV]
theorem arrV_list {l : List (Pc Unit)} (hv : ∀ p ∈ l, ValidS MD p) : (arrV l hv).toList.map (·.1) = l := by simp [arrV]

theorem mapGet {d : Array VS} {i : Nat} {p : Pc Unit} (h : (d.toList.map (·.1))[i]? = some p) : (d[i]!).1 = p := by
  rw [List.getElem?_map] at h
  have hi : i < d.size := by
    rcases Nat.lt_or_ge i d.size with h1 | h1
    · exact h1
    · rw [List.getElem?_eq_none (by simpa using h1)] at h; cases h
  rw [List.getElem?_eq_getElem (by simpa using hi)] at h
  rw [getElem!_pos d i hi]
  simpa using h

theorem holds_rowV {w : World} {B g : Nat} {d : Array VS} (h : RowAt encU 2 w B (some ⟨g, 0, none⟩) (d.toList.map (·.1))) (hf : ∀ o, w.frozen? ⟨g, o, none⟩ = false) : Sort.HoldsK encV 2 w g 0 d := by
  intro j hj
  rw [Sort.size_flatK] at hj
  rw [Sort.get_flatK _ _ _ _ hj]
  refine ⟨?_, hf _⟩
  have hi : j / 2 < d.size := by omega
  obtain ⟨p, hp⟩ : ∃ p, (d.toList.map (·.1))[j / 2]? = some p := ⟨_, List.getElem?_eq_getElem (by simpa using hi)⟩
  obtain ⟨g', off, e, _, hc⟩ := h (j / 2) p hp
  injection e with e
  injection e with e1 e2
  subst e1 e2
  have hm : j % 2 < (encU p).length := by rw [encU_len]; omega
  have := hc (j % 2) _ (List.getElem?_eq_getElem hm)
  rw [show 0 + j / 2 * 2 + j % 2 = 0 + j by omega] at this
  rw [this]
  unfold encV
  rw [mapGet hp, getElem!_pos (encU p) _ hm]
  rfl

theorem row_holdsV {w : World} {g : Nat} {d : Array VS} (hg : g < w.heap.size) (h : Sort.HoldsK encV 2 w g 0 d) : RowAt encU 2 w w.heap.size (some ⟨g, 0, none⟩) (d.toList.map (·.1)) := by
  intro k p hp
  refine ⟨g, 0, rfl, hg, fun j u hj => ?_⟩
  have hk : k < d.size := by
    rcases Nat.lt_or_ge k d.size with h1 | h1
    · exact h1
    · rw [List.getElem?_eq_none (by simpa using h1)] at hp; cases hp
  have hj2 : j < 2 := by have := (List.getElem?_eq_some_iff.1 hj).1; rw [encU_len] at this; exact this
  have := (h.cell hk hj2).1
  rw [this]
  unfold encV
  rw [mapGet hp, getElem!_pos (encU p) j (by rw [encU_len]; exact hj2), ← hj, List.getElem?_eq_getElem]

theorem grown_sortedV {w : World} {g n : Nat} {os : Array Obj} (d : Array VS) : w.grownBy (sortWorldK encV 2 w g 0 n d os) (some g) := by
  unfold sortWorldK Sort.putRowK
  refine ⟨rfl, rfl, rfl, by simp, fun k hk hne => ?_⟩
  rw [Sort.heap_grow_old _ _ (by simpa using hk)]
  have : g ≠ k := fun e => hne (by rw [e])
  simp [Sort.putRow, Sort.mapBlock, Sort.ahead, Array.getElem?_modify, this]

theorem perm_sortedV {d d' : Array VS} (h : Sort.PermIn 0 d.size d d') : (d'.toList.map (·.1)).Perm (d.toList.map (·.1)) := by
  obtain ⟨h1, _, h2⟩ := h
  have e1 : d.extract 0 d.size = d := by simp
  have e2 : d'.extract 0 d.size = d' := by rw [← h1]; simp
  rw [e1, e2] at h2
  exact h2.map _

theorem pairs_sortedV {d d' : Array VS} (hs : d'.size = d.size) (h : Sort.SortedIn (ltOf cmpV) 0 d.size d') : (d'.toList.map (·.1)).Pairwise (fun a b => a.f ≤ b.f) := by
  rw [List.pairwise_map, List.pairwise_iff_getElem]
  intro i j hi hj hij
  have hj' : j < d'.size := by simpa using hj
  have hi' : i < d'.size := by simpa using hi
  have := h i j (Nat.zero_le _) hij (by omega)
  rw [ltV, decide_eq_false_iff_not, getElem!_pos d' j hj', getElem!_pos d' i hi'] at this
  simp only [Array.getElem_toList]
  omega

end Go.Proofs.YtmodofbelpaelaaDoor
