/- The chapter's example: what its books hold (plain). -/
import Derived.Test.YtngckppnaflciaaDoorBlA
namespace Go.Proofs.YtngckppnaflciaaDoor
open Go.RowKit Go.Maps

def numPv (id key : ByteArray) (ena : Int) : Pv := ⟨id, key, 0, 9, ena, 0, ⟨#[]⟩, 1, 1, 1, [], ⟨#[]⟩, 0, 0, 0⟩
def b2 : ByteArray := ⟨#[98, 50]⟩
def a1 : ByteArray := ⟨#[97, 49]⟩
def px : ByteArray := ⟨#[112, 46, 120]⟩
def rPv : Pv := ⟨⟨#[114]⟩, ⟨#[]⟩, 0, 9, 9, 0, a1, 0, 0, 0, [], ⟨#[]⟩, 0, 0, 0⟩
def exS : List Pv := [numPv b2 px 5, numPv a1 px 9, rPv]

theorem small_in {x : Int} (h : -100 ≤ x) (h2 : x ≤ 100) : In8 x := by unfold In8; omega
theorem num_in (id key : ByteArray) (ena : Int) (h : key.size ≤ 100) : PvIn (numPv id key ena) := ⟨show In8 1 by unfold In8; omega, show In8 1 by unfold In8; omega, show In8 0 by unfold In8; omega, show In8 0 by unfold In8; omega, fun b h => by simp [numPv] at h, by simp [numPv], by simp only [numPv]; omega⟩
theorem r_in : PvIn rPv := ⟨small_in (by decide) (by decide), small_in (by decide) (by decide), small_in (by decide) (by decide), small_in (by decide) (by decide), fun b h => by simp [rPv] at h, by simp [rPv], by decide⟩
set_option maxRecDepth 100000 in
theorem v_b2 : validE (numPv b2 px 5) = none := by kernel_rfl
set_option maxRecDepth 100000 in
theorem v_a1 : validE (numPv a1 px 9) = none := by kernel_rfl
set_option maxRecDepth 100000 in
theorem v_r : validE rPv = none := by kernel_rfl
set_option maxRecDepth 100000 in
theorem v_a1y : validE (numPv a1 ⟨#[112, 46, 121]⟩ 1) = none := by kernel_rfl

theorem mergeSort_sorted {l : List (List UInt8)} (h : l.Pairwise (fun a b => leB a b = true)) : l.mergeSort leB = l := List.mergeSort_of_pairwise h
theorem ex_ids : idsS exS = [[97, 49], [98, 50], [114]] := by
  have hp : (exS.map idb).Perm [[97, 49], [98, 50], [114]] := by decide
  unfold idsS
  rw [mergeSort_of_perm hp]
  exact mergeSort_sorted (by decide)
theorem ex_nodup : (exS.map idb).Nodup := by decide
theorem ex_srt : srt exS = [numPv a1 px 9, numPv b2 px 5, rPv] := by
  unfold srt
  rw [ex_ids]
  rfl
theorem ex_of : sel (ofB px) exS = [numPv a1 px 9, numPv b2 px 5] := by unfold sel; rw [ex_srt]; kernel_rfl
theorem ex_rep : sel (repB a1) exS = [rPv] := by unfold sel; rw [ex_srt]; kernel_rfl
theorem ex_known : sel (knownB 7) exS = [numPv b2 px 5] := by unfold sel; rw [ex_srt]; rfl
theorem ex_keys : keysS exS = [px] := by
  unfold keysS
  rw [show keysL exS = [[112, 46, 120]] by decide, List.mergeSort_singleton]
  rfl
end Go.Proofs.YtngckppnaflciaaDoor
