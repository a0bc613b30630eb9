/- The chapter's example: the plain law. -/
import Derived.Test.YtmoeoomlggjaaaaGreatDoorAnB
namespace Go.Proofs.YtmoeoomlggjaaaaGreatDoor
open Go.RowKit Go.Maps

def na : ByteArray := ⟨#[105, 110, 46, 97]⟩
def nb : ByteArray := ⟨#[105, 110, 46, 98]⟩
def nc : ByteArray := ⟨#[105, 110, 46, 99]⟩
def nd : ByteArray := ⟨#[105, 110, 46, 100]⟩
def exX : List It := [⟨na, 1, 1⟩, ⟨nb, 2, 1⟩]
def exS : List Ch := [⟨nb, false, 5, 1⟩, ⟨nc, true, 0, 0⟩, ⟨nc, false, 7, 1⟩]
def exSC : List Ch := [⟨nb, false, 5, 1⟩, ⟨nc, false, 7, 1⟩]
def exY : List It := [⟨na, 1, 1⟩, ⟨nb, 5, 1⟩, ⟨nc, 7, 1⟩]
def exT : List It := [⟨nb, 2, 1⟩, ⟨nd, 4, 1⟩]
def exD : List Ch := [⟨na, true, 0, 0⟩, ⟨nd, false, 4, 1⟩]
def exB : List Ch := [⟨nb, false, 2, 1⟩, ⟨nc, true, 0, 0⟩]
def exTw : List It := [⟨na, 1, 1⟩, ⟨na, 1, 1⟩]

theorem canon_make {l : List Ch} (hn : (l.map nmb).Nodup) (hs : (l.map nmb).Pairwise (fun x y => leB x y = true)) : Canon (makeF l) l where
  keys := ⟨hs, hn, fun x => by
    constructor
    · intro h
      obtain ⟨c, hc, rfl⟩ := List.mem_map.1 h
      rw [makeF_yes hn hc]; rfl
    · intro h; exact makeF_sup x h⟩
  at' c hc := makeF_yes hn hc
theorem canonI_self {l : List It} (hn : (l.map itb).Nodup) (hs : l.Pairwise (fun a b => leB (itb a) (itb b) = true)) : CanonI (inF l) l := canonI_of (List.Perm.refl _) hn hs

theorem ex_s : makeF exS = makeF exSC := by
  funext y
  unfold makeF exS exSC
  simp only [List.foldl_cons, List.foldl_nil]
  unfold putA nmb nb nc
  dsimp only
  by_cases h1 : y = [105, 110, 46, 99] <;> by_cases h2 : y = [105, 110, 46, 98] <;> simp [h1, h2]
theorem ex_y : app (inF exX) (makeF exSC) = inF exY := by
  funext y
  unfold app makeF inF exX exSC exY
  simp only [List.foldl_cons, List.foldl_nil]
  unfold putA nmb itb na nb nc
  dsimp only
  by_cases h1 : y = [105, 110, 46, 99] <;> by_cases h2 : y = [105, 110, 46, 98] <;> by_cases h3 : y = [105, 110, 46, 97] <;> simp [h1, h2, h3]
theorem ex_d : diffA (inF exX) (inF exT) = makeF exD := by
  funext y
  unfold diffA makeF inF exX exT exD
  simp only [List.foldl_cons, List.foldl_nil]
  unfold putA nmb itb na nb nd mkN
  dsimp only
  by_cases h1 : y = [105, 110, 46, 100] <;> by_cases h2 : y = [105, 110, 46, 98] <;> by_cases h3 : y = [105, 110, 46, 97] <;> simp [h1, h2, h3]
theorem ex_b : diffA (inF exY) (inF exX) = makeF exB := by
  funext y
  unfold diffA makeF inF exX exY exB
  simp only [List.foldl_cons, List.foldl_nil]
  unfold putA nmb itb na nb nc mkN
  dsimp only
  by_cases h1 : y = [105, 110, 46, 99] <;> by_cases h2 : y = [105, 110, 46, 98] <;> by_cases h3 : y = [105, 110, 46, 97] <;> simp [h1, h2, h3]
theorem ex_sc : Canon (makeF exSC) exSC := canon_make (by decide) (by decide)
theorem ex_dc : Canon (makeF exD) exD := canon_make (by decide) (by decide)
theorem ex_bc : Canon (makeF exB) exB := canon_make (by decide) (by decide)
theorem ex_yc : CanonI (inF exY) exY := canonI_self (by decide) (by decide)
theorem in_a : inB na = true := by kernel_rfl
theorem in_b : inB nb = true := by kernel_rfl
theorem in_c : inB nc = true := by kernel_rfl
theorem in_d : inB nd = true := by kernel_rfl
theorem ex_may : ∀ c ∈ exS, mayE c = none := by
  intro c hc
  simp only [exS, List.mem_cons, List.not_mem_nil, or_false] at hc
  rcases hc with rfl | rfl | rfl <;> kernel_rfl
theorem ex_fx : faultI exX = none := by kernel_rfl
theorem ex_ft : faultI exT = none := by kernel_rfl
theorem ex_ftw : faultI exTw = some 0 := by kernel_rfl
theorem ex_tx : exSC.map (fun c => lineS (⟨#[]⟩ ++ ⟨#[UInt8.ofNat (48 + c.n.toNat)]⟩) c) = [⟨#[115, 101, 116, 32, 105, 110, 46, 98, 32, 53]⟩, ⟨#[115, 101, 116, 32, 105, 110, 46, 99, 32, 55]⟩] := by decide
end Go.Proofs.YtmoeoomlggjaaaaGreatDoor
