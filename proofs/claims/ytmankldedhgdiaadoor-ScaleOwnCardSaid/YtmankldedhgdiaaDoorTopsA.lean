/- slices.Clone at brackets, Tops and its iterator: walks. -/
import Derived.Test.YtmankldedhgdiaaDoorScaleH
import Derived.Test.YtmankldedhgdiaaDoorSeq
namespace Go.Proofs.YtmankldedhgdiaaDoor
open Go.RowKit Go.Shelf
attribute [local go_sem] Oper.semAt_some

theorem infoBr : (Tryd.prog.info? 31).map (fun i => (i.zero, i.size, i.bytes)) = some (some (.agg #[.int .i64 0, .int .i64 0, .int .i64 0, .int .i64 0]), 4, 32) := by kernel_rfl

theorem encR_flat (s : List BI) : (s.flatMap encR).length = s.length * 4 := flat_len (fun x _ => encR_len x)

theorem encR_one (s : List BI) : ∀ u ∈ s.flatMap encR, u.oneCell' = true := by
  intro u hu
  obtain ⟨b, _, hb⟩ := List.mem_flatMap.1 hu
  simp only [encR, List.mem_cons, List.not_mem_nil, or_false] at hb
  rcases hb with rfl | rfl | rfl | rfl <;> rfl

theorem row_flat {w : World} {B g off : Nat} {s : List BI} (h : RowAt encR 4 w B (some ⟨g, off, none⟩) s) : ∀ j u, (s.flatMap encR)[j]? = some u → w.cell? ((⟨g, off, none⟩ : Addr).add j) = some u := by
  intro j u hj
  have hlt : j < s.length * 4 := by rw [← encR_flat]; exact (List.getElem?_eq_some_iff.1 hj).1
  obtain ⟨b, hb⟩ : ∃ b, s[j / 4]? = some b := ⟨s[j / 4]'(by omega), List.getElem?_eq_getElem _⟩
  obtain ⟨g', off', e, _, hc⟩ := h (j / 4) b hb
  injection e with e
  injection e with e1 e2
  subst e1 e2
  have hm : j % 4 < (encR b).length := by rw [encR_len]; omega
  have hf := flat_at (l := s) (enc := encR) (size := 4) (fun x _ => encR_len x) hb (List.getElem?_eq_getElem hm)
  rw [show j / 4 * 4 + j % 4 = j by omega, hj] at hf
  have := hc (j % 4) _ (List.getElem?_eq_getElem hm)
  rw [← hf, show off + j / 4 * 4 + j % 4 = off + j by omega] at this
  rw [Go.WideShapes.add_plain]
  exact this

theorem row_none {w : World} {B : Nat} {s : List BI} (h : RowAt encR 4 w B none s) : s = [] := by
  cases s with
  | nil => rfl
  | cons b r => obtain ⟨_, _, e, _⟩ := h 0 b rfl; cases e

end Go.Proofs.YtmankldedhgdiaaDoor
