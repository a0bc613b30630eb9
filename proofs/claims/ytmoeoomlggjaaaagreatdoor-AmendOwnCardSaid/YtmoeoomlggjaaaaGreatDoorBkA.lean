/- text.Name, Space, Rest, Key; prov.kindOf: walks. -/
import Derived.Test.YtmoeoomlggjaaaaGreatDoorBootN
import Derived.Lib.SplitLaws
namespace Go.Proofs.YtmoeoomlggjaaaaGreatDoor
open Go.RowKit

def dotB : ByteArray := ⟨#[46]⟩
/-- what Name says of a string -/
def nameB (s : ByteArray) : Bool := !s.data.toList.isEmpty && (decide (s.size ≤ 64) && (Lib.splitB dotB 0 (Lib.countB s dotB) s).all fun x => wordL x.data.toList)

theorem splitB_size (sep : ByteArray) : ∀ (k : Nat) (s x : ByteArray), x ∈ Lib.splitB sep 0 k s → x.size ≤ s.size
  | 0, s, x, hx => by
    rw [Lib.splitB_zero] at hx
    rw [List.mem_singleton.1 hx]; exact Nat.le_refl _
  | k + 1, s, x, hx => by
    rcases Lib.indexB_cases s sep with hix | ⟨i, hix, _⟩
    · rw [Lib.splitB_miss _ _ _ _ hix] at hx
      rw [List.mem_singleton.1 hx]; exact Nat.le_refl _
    · rw [Lib.splitB_hit _ _ _ _ i hix] at hx
      rcases List.mem_cons.1 hx with rfl | h
      · rw [ByteArray.size_extract]; omega
      · have := splitB_size sep k _ x h
        rw [ByteArray.size_extract] at this; omega

set_option maxRecDepth 10000 in
set_option maxHeartbeats 4000000 in
theorem name_any (s : ByteArray) (m : Int) (w : World) (hm : w.cell? ⟨4, 0, none⟩ = some (.int .i64 m)) : Calls Tryz.prog 78 #[.string s] w fun e w' => e = .returned (.bool (nameB s)) ∧ Below w.heap.size w w' := by
  cases he : s.data.toList.isEmpty with
  | true =>
    have hn : nameB s = false := by unfold nameB; rw [he]; rfl
    have e0 : s.toList.isEmpty = true := by rw [ByteArray.toList_eq]; exact he
    rw [hn]
    clear he hn
    go_enter Tryz.func78, Tryz.ntmps78
    go_wp2_with fail
    go_ret
    exact ⟨rfl, by (repeat' (first | with_reducible exact Below.refl _ _ | with_reducible assumption | with_reducible refine Below.drew ?_ | with_reducible refine below_drewN ?_ _ | with_reducible refine Below.setCell ?_ ?_ _ | with_reducible refine Below.alloc ?_ ?_ _ | omega | (simp; done) | (simp; omega)))⟩
  | false =>
    have e0 : s.toList.isEmpty = false := by rw [ByteArray.toList_eq]; exact he
    by_cases hz : 64 < s.size
    · have hn : nameB s = false := by unfold nameB; rw [he, decide_eq_false (by omega)]; rfl
      have e1 : decide ((64 : Int) < (s.size : Int)) = true := decide_eq_true (by omega)
      rw [hn]
      clear he hn
      go_enter Tryz.func78, Tryz.ntmps78
      go_wp2_with fail
      go_ret
      exact ⟨rfl, by (repeat' (first | with_reducible exact Below.refl _ _ | with_reducible assumption | with_reducible refine Below.drew ?_ | with_reducible refine below_drewN ?_ _ | with_reducible refine Below.setCell ?_ ?_ _ | with_reducible refine Below.alloc ?_ ?_ _ | omega | (simp; done) | (simp; omega)))⟩
    · have e1 : decide ((64 : Int) < (s.size : Int)) = false := decide_eq_false (by omega)
      have HS := Lib.hid (Tryz.strings_Split s dotB m w (by omega) hm (by decide))
      obtain ⟨l, hl⟩ : ∃ l, Lib.splitB dotB 0 (Lib.countB s dotB) s = l := ⟨_, rfl⟩
      have hlen : l.length = Lib.countB s dotB + 1 := by rw [← hl]; exact Lib.splitB_all dotB (by decide) 0 _ s rfl
      have HZ : Hid (∀ x ∈ l, x.size ≤ 64) := Lib.hid (fun x hx => by have := splitB_size dotB _ s x (by rw [hl]; exact hx); omega)
      have HN : Hid (nameB s = l.all fun x => wordL x.data.toList) := by show _ = _; unfold nameB; rw [he, decide_eq_true (by omega), hl]; rfl
      obtain ⟨n, hn⟩ : ∃ n, Lib.countB s dotB + 1 = n := ⟨_, rfl⟩
      rw [hl] at HS
      have HS2 : Hid (Calls Tryz.prog 99 #[.string s, .string dotB] w fun e w' => e = .returned (.slice (some ⟨w.heap.size, 0, none⟩) n n) ∧ w' = w.alloc (.cells (l.map Value.string).toArray 9)) := by subst hn; exact HS
      rw [hn] at hlen
      have hcap : n ≤ 65 := by have := Lib.countB_le dotB (by decide) _ s (Nat.le_refl _); omega
      clear he hl HS hn hm
      go_enter Tryz.func78, Tryz.ntmps78
      go_wp2_with fail
      refine HS2.out.mono ?_
      rintro e w1 ⟨rfl, hw1⟩
      have BX : Hid (w1.heap[w.heap.size]? = some (.cells (l.map Value.string).toArray 9 (0, 0))) := by rw [hw1]; exact heap_alloc_new w _
      have h1 : Below w.heap.size w w1 := by rw [hw1]; (repeat' (first | with_reducible exact Below.refl _ _ | with_reducible assumption | with_reducible refine Below.drew ?_ | with_reducible refine below_drewN ?_ _ | with_reducible refine Below.setCell ?_ ?_ _ | with_reducible refine Below.alloc ?_ ?_ _ | omega | (simp; done) | (simp; omega)))
      have hz1 : w1.heap.size = w.heap.size + 1 := by rw [hw1]; exact Array.size_push _
      have HL := Lib.hid hlen
      clear hw1 hlen HS2
      go_wp2_with fail
      go_loopw [15] (fun i wr => ∃ k : Nat, k ≤ n ∧ i = .int .i64 k ∧ Hid (∀ (j : Nat) x, l[j]? = some x → j < k → wordL x.data.toList = true) ∧ Below w1.heap.size w1 wr) (fun i _ => n - (intOf i).toNat)
      case atStart => exact ⟨0, Nat.zero_le _, rfl, Lib.hid (fun j c _ h => by omega), Below.refl _ _⟩
      case round =>
        obtain ⟨k, hk, rfl, HK, hb⟩ := hrel
        have hzz := hb.size
        by_cases hlt : k < n
        · have hlt2 : (k : Int) < (n : Int) := by omega
          obtain ⟨x, hx⟩ : ∃ x, l[k]? = some x := ⟨_, List.getElem?_eq_getElem (by have := HL.out; omega)⟩
          have HX := Lib.hid hx
          have hxs : x.size ≤ 64 := HZ.out x (List.mem_of_getElem? hx)
          have cX : wr.cell? ⟨w.heap.size, k, none⟩ = some (.string x) := by rw [cellH (keepH hb BX.out)]; simp [hx]
          have k1 : (0 : Int) ≤ (k : Int) := by omega
          have k2 : ((k : Int)).toNat = k := by omega
          clear hx
          go_wp2_with fail
          refine (word_any x _ (by omega)).mono ?_
          rintro e w2 ⟨rfl, hb2⟩
          have h2 : Below w1.heap.size w1 w2 := stepH hb hb2
          cases hwd : wordL x.data.toList with
          | true =>
            have HW := Lib.hid hwd
            go_wp2_with fail
            go_roundw
            case rel => exact ⟨k + 1, by omega, by go_num, Lib.hid (fun j y hy hj => by
              rcases Nat.lt_or_ge j k with h | h
              · exact HK.out j y hy h
              · obtain rfl : j = k := by omega
                rw [HX.out] at hy; cases hy; exact HW.out), h2⟩
            case measure => simp [intOf]; omega
          | false =>
            have HR : Hid ((l.all fun x => wordL x.data.toList) = false) := by
              show _ = _
              rw [List.all_eq_false]
              exact ⟨x, List.mem_of_getElem? HX.out, by rw [hwd]; decide⟩
            clear hwd
            go_wp2_with fail
            go_ret
            exact ⟨by rw [HN.out, HR.out]; rfl, h1.trans (h2.mono h1.size)⟩
        · have hlt2 : ¬ (k : Int) < (n : Int) := by omega
          have HR : Hid ((l.all fun x => wordL x.data.toList) = true) := by
            show _ = _
            rw [List.all_eq_true]
            intro x hx
            obtain ⟨j, hj, e⟩ := List.mem_iff_getElem.1 hx
            exact HK.out j x (by rw [List.getElem?_eq_getElem hj, e]) (by have := HL.out; omega)
          go_wp2_with fail
          go_ret
          exact ⟨by rw [HN.out, HR.out]; rfl, h1.trans (hb.mono h1.size)⟩

/-- a name's first word; what stands behind it -/
def cutB (s : ByteArray) : List UInt8 × List UInt8 × Bool := Lib.cut s.data.toList [46]
def spaceB (s : ByteArray) : ByteArray := if nameB s = true then ⟨(cutB s).1.toArray⟩ else ByteArray.empty
def restB (s : ByteArray) : ByteArray := if nameB s = true then ⟨(cutB s).2.1.toArray⟩ else ByteArray.empty

theorem space_any (s : ByteArray) (m : Int) (w : World) (hs : s.size < 4294967281) (hm : w.cell? ⟨4, 0, none⟩ = some (.int .i64 m)) : Calls Tryz.prog 58 #[.string s] w fun e w' => e = .returned (.string (spaceB s)) ∧ Below w.heap.size w w' := by
  have HN := Lib.hid (name_any s m w hm)
  have HM := Lib.hid (fun (w' : World) (h : Below w.heap.size w w') => Tryz.strings_Cut s dotB m w' hs ((h.cell (World.block_lt_of_cell? _ _ hm)).trans hm))
  clear hm
  go_enter Tryz.func58, Tryz.ntmps58
  go_wp2_with fail
  refine HN.out.mono ?_
  rintro e w1 ⟨rfl, hb⟩
  cases hn : nameB s with
  | false =>
    have HE : Hid (spaceB s = ByteArray.empty) := by show _ = _; unfold spaceB; rw [hn]; rfl
    go_wp2_with fail
    go_ret
    exact ⟨by rw [HE.out]; rfl, hb⟩
  | true =>
    have HE : Hid (spaceB s = ⟨(cutB s).1.toArray⟩) := by show _ = _; unfold spaceB; rw [hn]; rfl
    clear hn
    go_wp2_with fail
    refine (HM.out w1 hb).mono ?_
    rintro e w2 ⟨rfl, n, rfl⟩
    go_wp2_with fail
    go_ret
    exact ⟨by rw [HE.out]; rfl, hb.trans (by (repeat' (first | with_reducible exact Below.refl _ _ | with_reducible assumption | with_reducible refine Below.drew ?_ | with_reducible refine below_drewN ?_ _ | with_reducible refine Below.setCell ?_ ?_ _ | with_reducible refine Below.alloc ?_ ?_ _ | omega | (simp; done) | (simp; omega))))⟩

theorem rest_any (s : ByteArray) (m : Int) (w : World) (hs : s.size < 4294967281) (hm : w.cell? ⟨4, 0, none⟩ = some (.int .i64 m)) : Calls Tryz.prog 59 #[.string s] w fun e w' => e = .returned (.string (restB s)) ∧ Below w.heap.size w w' := by
  have HN := Lib.hid (name_any s m w hm)
  have HM := Lib.hid (fun (w' : World) (h : Below w.heap.size w w') => Tryz.strings_Cut s dotB m w' hs ((h.cell (World.block_lt_of_cell? _ _ hm)).trans hm))
  clear hm
  go_enter Tryz.func59, Tryz.ntmps59
  go_wp2_with fail
  refine HN.out.mono ?_
  rintro e w1 ⟨rfl, hb⟩
  cases hn : nameB s with
  | false =>
    have HE : Hid (restB s = ByteArray.empty) := by show _ = _; unfold restB; rw [hn]; rfl
    go_wp2_with fail
    go_ret
    exact ⟨by rw [HE.out]; rfl, hb⟩
  | true =>
    have HE : Hid (restB s = ⟨(cutB s).2.1.toArray⟩) := by show _ = _; unfold restB; rw [hn]; rfl
    clear hn
    go_wp2_with fail
    refine (HM.out w1 hb).mono ?_
    rintro e w2 ⟨rfl, n, rfl⟩
    go_wp2_with fail
    go_ret
    exact ⟨by rw [HE.out]; rfl, hb.trans (by (repeat' (first | with_reducible exact Below.refl _ _ | with_reducible assumption | with_reducible refine Below.drew ?_ | with_reducible refine below_drewN ?_ _ | with_reducible refine Below.setCell ?_ ?_ _ | with_reducible refine Below.alloc ?_ ?_ _ | omega | (simp; done) | (simp; omega))))⟩
end Go.Proofs.YtmoeoomlggjaaaaGreatDoor
