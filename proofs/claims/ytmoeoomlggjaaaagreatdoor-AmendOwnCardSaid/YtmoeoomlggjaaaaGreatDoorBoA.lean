/- The document's words, names, Valid, Over, put, Get, without, few, Make, Inputs: walks and their plain law. -/
import Derived.Test.YtmoeoomlggjaaaaGreatDoorAnF
import Derived.Lib.IndexBytes
import Derived.Lib.SplitLaws
namespace Go.Proofs.YtmoeoomlggjaaaaGreatDoor
section
open Go.RowKit Go.Maps

/-- words between points, the first one begun -/
def cutW : List UInt8 → List UInt8 → List (List UInt8)
  | acc, [] => [acc]
  | acc, c :: r => if c = 46 then acc :: cutW [] r else cutW (acc ++ [c]) r
theorem cutW_plain : ∀ (l acc : List UInt8), (∀ c ∈ l, c ≠ 46) → cutW acc l = [acc ++ l]
  | [], acc, _ => by rw [List.append_nil]; rfl
  | c :: r, acc, h => by
    show (if c = 46 then _ else cutW (acc ++ [c]) r) = _
    rw [if_neg (h c (List.mem_cons_self ..)), cutW_plain r _ (fun x hx => h x (List.mem_cons_of_mem _ hx)), List.append_assoc]
    rfl
theorem cutW_cut : ∀ (a acc r : List UInt8), (∀ c ∈ a, c ≠ 46) → cutW acc (a ++ 46 :: r) = (acc ++ a) :: cutW [] r
  | [], acc, r, _ => by rw [List.append_nil]; rfl
  | c :: a, acc, r, h => by
    show (if c = 46 then _ else cutW (acc ++ [c]) (a ++ 46 :: r)) = _
    rw [if_neg (h c (List.mem_cons_self ..)), cutW_cut a _ r (fun x hx => h x (List.mem_cons_of_mem _ hx)), List.append_assoc]
    rfl
theorem occ_dot {l : List UInt8} {j : Nat} (h : l[j]? = some 46) : Lib.occAt l [46] j = true := by
  unfold Lib.occAt
  have hj := (List.getElem?_eq_some_iff.1 h).1
  rw [List.drop_eq_getElem_cons hj]
  have h2 : l[j] = 46 := (List.getElem?_eq_some_iff.1 h).2
  rw [h2]
  simp [List.isPrefixOf]
theorem dot_occ {l : List UInt8} {i : Nat} (h : Lib.occAt l [46] i = true) : l.drop i = 46 :: l.drop (i + 1) := by
  unfold Lib.occAt at h
  cases hl : l.drop i with
  | nil => rw [hl] at h; cases h
  | cons x r =>
    rw [hl] at h
    have : x = 46 := (show (46 : UInt8) = x by simpa [List.isPrefixOf] using h).symm
    subst this
    have h3 : (l.drop i).drop 1 = l.drop (i + 1) := by rw [List.drop_drop]
    rw [hl] at h3
    rw [← h3]; rfl
theorem no_dot {l : List UInt8} {i : Nat} (h : ∀ j, j < i → Lib.occAt l [46] j = false) : ∀ c ∈ l.take i, c ≠ 46 := by
  rintro c hc rfl
  obtain ⟨j, hj, e⟩ := List.mem_take_iff_getElem.1 hc
  have := occ_dot (l := l) (j := j) (by rw [← e]; exact List.getElem?_eq_getElem (by omega))
  rw [h j (by omega)] at this
  cases this
theorem split_cut : ∀ (n : Nat) (l : List UInt8), l.length ≤ n → Lib.splitK [46] 0 (Lib.count l [46]) l = cutW [] l
  | 0, l, hn => by
    have : l = [] := List.eq_nil_of_length_eq_zero (by omega)
    subst this
    rfl
  | n + 1, l, hn => by
    rcases Lib.index_spec l [46] with ⟨hix, hno⟩ | ⟨i, hix, hi, hocc, hno⟩
    · rw [Lib.count_miss hix, Lib.splitK]
      have := no_dot (l := l) (i := l.length) (fun j hj => hno j (by omega))
      rw [List.take_length] at this
      rw [cutW_plain l [] this]
      rfl
    · have hd := dot_occ hocc
      have hl : l = l.take i ++ 46 :: l.drop (i + 1) := by rw [← hd, List.take_append_drop]
      have hlen : (l.drop (i + 1)).length < l.length := by
        have := congrArg List.length hd
        simp at this
        rw [List.length_drop]
        omega
      have hne : ¬ (((i : Int)) == -1) = true := by simp
      rw [Lib.count_hit (by simp) hix, Nat.add_comm, Lib.splitK, hix, if_neg hne]
      simp only [Int.toNat_natCast, Nat.add_zero, List.length_cons, List.length_nil, Nat.zero_add]
      rw [split_cut n (l.drop (i + 1)) (by omega)]
      conv => rhs; rw [hl, cutW_cut _ _ _ (no_dot (fun j hj => hno j hj))]
      rw [List.nil_append]
theorem nameB_cut (s : ByteArray) : nameB s = (!s.data.toList.isEmpty && (decide (s.size ≤ 64) && (cutW [] s.data.toList).all wordL)) := by
  unfold nameB
  congr 2
  have := Lib.splitB_data dotB 0 (Lib.countB s dotB) s
  rw [← split_cut _ _ (Nat.le_refl _)]
  show _ = (Lib.splitK dotB.data.toList 0 (Lib.count s.data.toList dotB.data.toList) s.data.toList).all wordL
  rw [← this, List.all_map]
  rfl
/-- an empty text is no name -/
theorem cutW_empty : (cutW [] []).all wordL = false := rfl
theorem nameB_words (s : ByteArray) : nameB s = (decide (s.size ≤ 64) && (cutW [] s.data.toList).all wordL) := by
  rw [nameB_cut]
  cases h : s.data.toList with
  | nil => simp [cutW_empty]
  | cons c r => simp
theorem cutW_ne (acc l : List UInt8) : cutW acc l ≠ [] := by
  induction l generalizing acc with
  | nil => simp [cutW]
  | cons c r ih =>
    unfold cutW
    split
    · simp
    · exact ih _
/-- the first word, what stands behind it -/
theorem cut_first (l : List UInt8) : (Lib.cut l [46]).1 = (cutW [] l).head (cutW_ne _ _) ∧ (Lib.cut l [46]).2.1 = l.drop ((cutW [] l).head (cutW_ne _ _)).length.succ ∧ ((Lib.cut l [46]).2.2 = decide (((cutW [] l).head (cutW_ne _ _)).length < l.length)) := by
  rcases Lib.index_spec l [46] with ⟨hix, hno⟩ | ⟨i, hix, hi, hocc, hno⟩
  · have := no_dot (l := l) (i := l.length) (fun j hj => hno j (by omega))
    rw [List.take_length] at this
    have e : cutW [] l = [l] := by rw [cutW_plain l [] this]; rfl
    have e2 : (cutW [] l).head (cutW_ne _ _) = l := by simp only [e]; rfl
    rw [e2]
    unfold Lib.cut
    rw [hix]
    simp
  · have hd := dot_occ hocc
    have hl : l = l.take i ++ 46 :: l.drop (i + 1) := by rw [← hd, List.take_append_drop]
    have hlt : i < l.length := by
      have := congrArg List.length hd
      simp at this
      omega
    have e : cutW [] l = l.take i :: cutW [] (l.drop (i + 1)) := by
      conv => lhs; rw [hl, cutW_cut _ _ _ (no_dot (fun j hj => hno j hj))]
      rfl
    have e2 : (cutW [] l).head (cutW_ne _ _) = l.take i := by simp only [e]; rfl
    rw [e2]
    unfold Lib.cut
    rw [hix]
    have hz : (0 : Int) ≤ (i : Int) := by omega
    simp [hz, List.length_take, Nat.min_eq_left hi, hlt]
end

section
open Go.RowKit Go.Maps

theorem digitR_any (c : UInt8) (w : World) : Calls Tryz.prog 147 #[.int .u8 c.toNat] w fun e w' => e = .returned (.bool (digB c)) ∧ Below w.heap.size w w' := by
  unfold digB
  by_cases h1 : 48 ≤ c.toNat
  · have e1 : decide ((48 : Int) ≤ (c.toNat : Int)) = true := decide_eq_true (by omega)
    by_cases h2 : c.toNat ≤ 57
    · have e2 : decide ((c.toNat : Int) ≤ 57) = true := decide_eq_true (by omega)
      rw [decide_eq_true h1, decide_eq_true h2]
      go_enter Tryz.func147, Tryz.ntmps147
      go_wp2_with fail
      go_ret
      exact ⟨rfl, by (repeat' (first | with_reducible exact Below.refl _ _ | with_reducible assumption | with_reducible refine Below.drew ?_ | with_reducible refine below_drewN ?_ _ | with_reducible refine Below.setCell ?_ ?_ _ | with_reducible refine Below.alloc ?_ ?_ _ | omega | (simp; done) | (simp; omega)))⟩
    · have e2 : decide ((c.toNat : Int) ≤ 57) = false := decide_eq_false (by omega)
      rw [decide_eq_true h1, decide_eq_false h2]
      go_enter Tryz.func147, Tryz.ntmps147
      go_wp2_with fail
      go_ret
      exact ⟨rfl, by (repeat' (first | with_reducible exact Below.refl _ _ | with_reducible assumption | with_reducible refine Below.drew ?_ | with_reducible refine below_drewN ?_ _ | with_reducible refine Below.setCell ?_ ?_ _ | with_reducible refine Below.alloc ?_ ?_ _ | omega | (simp; done) | (simp; omega)))⟩
  · have e1 : decide ((48 : Int) ≤ (c.toNat : Int)) = false := decide_eq_false (by omega)
    rw [decide_eq_false h1]
    go_enter Tryz.func147, Tryz.ntmps147
    go_wp2_with fail
    go_ret
    exact ⟨rfl, by (repeat' (first | with_reducible exact Below.refl _ _ | with_reducible assumption | with_reducible refine Below.drew ?_ | with_reducible refine below_drewN ?_ _ | with_reducible refine Below.setCell ?_ ?_ _ | with_reducible refine Below.alloc ?_ ?_ _ | omega | (simp; done) | (simp; omega)))⟩

theorem letterG_any (c : UInt8) (b : Bool) (w : World) (h : okW false c = b) : Calls Tryz.prog 131 #[.int .u8 c.toNat] w fun e w' => e = .returned (.bool b) ∧ Below w.heap.size w w' := by
  have HD := Lib.hid (fun w => digitR_any c w)
  by_cases h1 : 97 ≤ c.toNat ∧ c.toNat ≤ 122
  · have e1 : decide ((97 : Int) ≤ (c.toNat : Int)) = true := decide_eq_true (by omega)
    have e2 : decide ((c.toNat : Int) ≤ 122) = true := decide_eq_true (by omega)
    obtain rfl : b = true := by rw [← h]; unfold okW; simp [h1]
    clear h h1
    go_enter Tryz.func131, Tryz.ntmps131
    go_wp2_with fail
    go_ret
    exact ⟨rfl, by (repeat' (first | with_reducible exact Below.refl _ _ | with_reducible assumption | with_reducible refine Below.drew ?_ | with_reducible refine below_drewN ?_ _ | with_reducible refine Below.setCell ?_ ?_ _ | with_reducible refine Below.alloc ?_ ?_ _ | omega | (simp; done) | (simp; omega)))⟩
  · have HO : Hid ((digB c || c == 95) = b) := Lib.hid (by
      unfold okW at h
      rw [show (decide (97 ≤ c.toNat) && decide (c.toNat ≤ 122)) = false by simp; omega] at h
      simpa using h)
    obtain ⟨e95, he95⟩ : ∃ x, (c == 95) = x := ⟨_, rfl⟩
    have e9 : ((c.toNat : Int) == 95) = e95 := by
      rw [← he95, Bool.eq_iff_iff, beq_iff_eq, beq_iff_eq]
      constructor
      · intro q; exact UInt8.toNat_inj.1 (show c.toNat = (95 : UInt8).toNat by (have h46 : (95 : UInt8).toNat = 95 := rfl); omega)
      · rintro rfl; rfl
    rw [he95] at HO
    cases hd : digB c with
    | true =>
      have HDB := Lib.hid hd
      rw [hd] at HO
      obtain rfl : b = true := by rw [← HO.out]; rfl
      by_cases h2 : 97 ≤ c.toNat
      · have e1 : decide ((97 : Int) ≤ (c.toNat : Int)) = true := decide_eq_true (by omega)
        have e2 : decide ((c.toNat : Int) ≤ 122) = false := decide_eq_false (by omega)
        clear h h1 h2 hd he95
        go_enter Tryz.func131, Tryz.ntmps131
        go_wp2_with fail
        refine (HD.out _).mono ?_
        rintro e w1 ⟨rfl, hb1⟩
        rw [HDB.out]
        go_wp2_with fail
        go_ret
        exact ⟨rfl, hb1⟩
      · have e1 : decide ((97 : Int) ≤ (c.toNat : Int)) = false := decide_eq_false (by omega)
        clear h h1 h2 hd he95
        go_enter Tryz.func131, Tryz.ntmps131
        go_wp2_with fail
        refine (HD.out _).mono ?_
        rintro e w1 ⟨rfl, hb1⟩
        rw [HDB.out]
        go_wp2_with fail
        go_ret
        exact ⟨rfl, hb1⟩
    | false =>
      have HDB := Lib.hid hd
      rw [hd] at HO
      obtain rfl : e95 = b := by rw [← HO.out]; rfl
      by_cases h2 : 97 ≤ c.toNat
      · have e1 : decide ((97 : Int) ≤ (c.toNat : Int)) = true := decide_eq_true (by omega)
        have e2 : decide ((c.toNat : Int) ≤ 122) = false := decide_eq_false (by omega)
        clear h h1 h2 hd he95 HO
        go_enter Tryz.func131, Tryz.ntmps131
        go_wp2_with fail
        refine (HD.out _).mono ?_
        rintro e w1 ⟨rfl, hb1⟩
        rw [HDB.out]
        go_wp2_with fail
        go_ret
        exact ⟨rfl, hb1⟩
      · have e1 : decide ((97 : Int) ≤ (c.toNat : Int)) = false := decide_eq_false (by omega)
        clear h h1 h2 hd he95 HO
        go_enter Tryz.func131, Tryz.ntmps131
        go_wp2_with fail
        refine (HD.out _).mono ?_
        rintro e w1 ⟨rfl, hb1⟩
        rw [HDB.out]
        go_wp2_with fail
        go_ret
        exact ⟨rfl, hb1⟩

set_option maxRecDepth 10000 in
set_option maxHeartbeats 4000000 in
theorem wordG_any (s : ByteArray) (b : Bool) (w : World) (hm : s.size ≤ 100000) (hb : wordL s.data.toList = b) : Calls Tryz.prog 117 #[.string s] w fun e w' => e = .returned (.bool b) ∧ Below w.heap.size w w' := by
  cases hl : s.data.toList with
  | nil =>
    have e0 : s.toList.isEmpty = true := by rw [ByteArray.toList_eq, hl]; rfl
    obtain rfl : b = false := by rw [← hb, hl]; rfl
    clear hb hl
    go_enter Tryz.func117, Tryz.ntmps117
    go_wp2_with fail
    go_ret
    exact ⟨rfl, by (repeat' (first | with_reducible exact Below.refl _ _ | with_reducible assumption | with_reducible refine Below.drew ?_ | with_reducible refine below_drewN ?_ _ | with_reducible refine Below.setCell ?_ ?_ _ | with_reducible refine Below.alloc ?_ ?_ _ | omega | (simp; done) | (simp; omega)))⟩
  | cons c r =>
    have hz : 0 < s.size := by
      have : s.size = s.data.toList.length := rfl
      rw [this, hl, List.length_cons]; omega
    have h0 : s.data.toList[0]? = some c := by rw [hl]; rfl
    have i0 : ∀ hh, s[0]'hh = c := fun hh => by
      have := (List.getElem?_eq_some_iff.1 h0).2
      rw [← this]; rfl
    have e0 : s.toList.isEmpty = false := by rw [ByteArray.toList_eq, hl]; rfl
    have z0 : (0 : Int) < (s.size : Int) := by omega
    by_cases h1 : c.toNat < 97
    · obtain rfl : b = false := by rw [← hb]; exact wordL_no h0 (by unfold okW; simp; omega)
      have e1 : decide ((c.toNat : Int) < 97) = true := decide_eq_true (by omega)
      clear hb hl h0
      go_enter Tryz.func117, Tryz.ntmps117
      go_wp2_with fail
      go_ret
      exact ⟨rfl, by (repeat' (first | with_reducible exact Below.refl _ _ | with_reducible assumption | with_reducible refine Below.drew ?_ | with_reducible refine below_drewN ?_ _ | with_reducible refine Below.setCell ?_ ?_ _ | with_reducible refine Below.alloc ?_ ?_ _ | omega | (simp; done) | (simp; omega)))⟩
    by_cases h2 : 122 < c.toNat
    · obtain rfl : b = false := by rw [← hb]; exact wordL_no h0 (by unfold okW; simp; omega)
      have e1 : decide ((c.toNat : Int) < 97) = false := decide_eq_false (by omega)
      have e2 : decide ((122 : Int) < (c.toNat : Int)) = true := decide_eq_true (by omega)
      clear hb hl h0
      go_enter Tryz.func117, Tryz.ntmps117
      go_wp2_with fail
      go_ret
      exact ⟨rfl, by (repeat' (first | with_reducible exact Below.refl _ _ | with_reducible assumption | with_reducible refine Below.drew ?_ | with_reducible refine below_drewN ?_ _ | with_reducible refine Below.setCell ?_ ?_ _ | with_reducible refine Below.alloc ?_ ?_ _ | omega | (simp; done) | (simp; omega)))⟩
    have hok : Hid (okW true c = true) := Lib.hid (by unfold okW; simp; omega)
    have e1 : decide ((c.toNat : Int) < 97) = false := decide_eq_false (by omega)
    have e2 : decide ((122 : Int) < (c.toNat : Int)) = false := decide_eq_false (by omega)
    have HB := Lib.hid hb
    have H0 := Lib.hid h0
    clear hb hl h0 h1 h2
    go_enter Tryz.func117, Tryz.ntmps117
    go_wp2_with fail
    clear i0 e1 e2
    go_loopw [3] (fun i wr => ∃ k : Nat, k ≤ s.size ∧ i = .int .i64 k ∧ Hid (∀ j x, j < k → s.data.toList[j]? = some x → okW false x = true) ∧ Below w.heap.size w wr) (fun i _ => s.size - (intOf i).toNat)
    case atStart => exact ⟨0, Nat.zero_le _, rfl, Lib.hid (fun j x h => by omega), Below.refl _ _⟩
    case round =>
      obtain ⟨k, hk, rfl, HI, hb⟩ := hrel
      by_cases hlt : k < s.size
      · have hlt2 : (k : Int) < (s.size : Int) := by omega
        obtain ⟨x, hx⟩ : ∃ x, s[k]'hlt = x := ⟨_, rfl⟩
        have i0 : ∀ hh, s[k]'hh = x := fun _ => hx
        have HX : Hid (s.data.toList[k]? = some x) := Lib.hid (by rw [← hx]; simp [ByteArray.getElem_eq_getElem_data, hlt])
        have k1 : (0 : Int) ≤ (k : Int) := by omega
        have k2 : ((k : Int)).toNat = k := by omega
        clear hx
        cases hq : okW false x with
        | true =>
          have HQ := Lib.hid hq
          clear hq
          go_wp2_with fail
          refine (letterG_any x true _ HQ.out).mono ?_
          rintro e w2 ⟨rfl, hb2⟩
          go_wp2_with fail
          go_roundw
          case rel => exact ⟨k + 1, by omega, by go_num, Lib.hid (fun j y hj hy => by
            rcases Nat.lt_or_ge j k with h | h
            · exact HI.out j y h hy
            · obtain rfl : j = k := by omega
              rw [HX.out] at hy
              injection hy with hy
              rw [← hy]; exact HQ.out), stepH hb hb2⟩
          case measure => simp [intOf]; omega
        | false =>
          have HQ := Lib.hid hq
          clear hq
          obtain rfl : b = false := by
            rw [← HB.out]
            refine wordL_no HX.out ?_
            rcases Nat.eq_zero_or_pos k with h | h
            · exfalso
              subst h
              have h3 := HX.out
              rw [H0.out] at h3
              injection h3 with h3
              subst h3
              have h9 := hok.out
              have h8 := HQ.out
              unfold okW at h9 h8
              simp at h9 h8
              omega
            · rw [decide_eq_false (by omega)]; exact HQ.out
          go_wp2_with fail
          refine (letterG_any x false _ HQ.out).mono ?_
          rintro e w2 ⟨rfl, hb2⟩
          go_wp2_with fail
          go_ret
          exact ⟨rfl, stepH hb hb2⟩
      · have hlt2 : ¬ (k : Int) < (s.size : Int) := by omega
        obtain rfl : k = s.size := by omega
        obtain rfl : b = true := by
          rw [← HB.out, wordL_all]
          · cases hl : s.data.toList with
            | nil => have h3 := H0.out; rw [hl] at h3; simp at h3
            | cons _ _ => rfl
          · intro j x hj
            rcases Nat.eq_zero_or_pos j with h | h
            · subst h
              rw [H0.out] at hj
              injection hj with hj
              subst hj
              exact hok.out
            · rw [decide_eq_false (by omega)]
              exact HI.out j x (List.getElem?_eq_some_iff.1 hj).1 hj
        go_wp2_with fail
        go_ret
        exact ⟨rfl, hb⟩
end

section
open Go.RowKit Go.Maps

theorem ext_self (s : ByteArray) (f : Nat) : (s.extract f f).data.toList = [] := by simp
theorem ext_snoc {s : ByteArray} {f k : Nat} {c : UInt8} (hf : f ≤ k) (hc : s.data.toList[k]? = some c) : (s.extract f (k + 1)).data.toList = (s.extract f k).data.toList ++ [c] := by
  have hl := (List.getElem?_eq_some_iff.1 hc).1
  have h1 : ∀ n, (s.extract f n).data.toList = (s.data.toList.take n).drop f := fun n => by simp [Array.toList_extract, List.extract_eq_take_drop, List.drop_take]
  rw [h1, h1, List.take_add_one, hc]
  rw [List.drop_append_of_le_length (by rw [List.length_take]; omega)]
  rfl

set_option maxRecDepth 10000 in
set_option maxHeartbeats 4000000 in
theorem wordsG_any (s : ByteArray) (w : World) (hm : s.size ≤ 64) : Calls Tryz.prog 95 #[.string s] w fun e w' => (∃ v, ∃ l : List ByteArray, e = .returned v ∧ Own encS 1 9 w.heap.size w' v l ∧ l.map (·.data.toList) = cutW [] s.data.toList ∧ l.length ≤ 65) ∧ Below w.heap.size w w' := by
  obtain ⟨inf0, hi, jz0, jz1, jz2⟩ := info_parts infoS
  go_enter Tryz.func95, Tryz.ntmps95
  go_wp2_with fail
  go_loopw [3, 4, 5] (fun v fv kv wr => ∃ (k f : Nat) (out : List ByteArray), f ≤ k ∧ k ≤ s.size + 1 ∧ fv = .int .i64 f ∧ kv = .int .i64 k ∧ Own encS 1 9 w.heap.size wr v out ∧ Hid ((k ≤ s.size → out.map (·.data.toList) ++ cutW (s.extract f k).data.toList (s.data.toList.drop k) = cutW [] s.data.toList) ∧ (s.size < k → out.map (·.data.toList) = cutW [] s.data.toList)) ∧ out.length ≤ k ∧ Below w.heap.size w wr) (fun _ _ kv _ => s.size + 1 - (intOf kv).toNat)
  case atStart => exact ⟨0, 0, [], Nat.le_refl _, by omega, rfl, rfl, Own.nil, ⟨fun _ => by rw [ext_self, List.drop_zero]; rfl, fun h => by omega⟩, Nat.le_refl _, Below.refl _ _⟩
  case round =>
    obtain ⟨k, f, out, hfk, hk, rfl, rfl, hown, HH, hlen, hb⟩ := hrel
    have HO := Lib.hid hown
    obtain ⟨A, c, hv, hA1, hA2, _⟩ := Own.rows (fun x _ => encS_len x) hown
    subst hv
    clear hown
    have hz := hb.size
    by_cases hlt : k ≤ s.size
    · have m1 : (k : Int) ≤ (s.size : Int) := by omega
      by_cases heq : k = s.size
      · have m2 : ((k : Int) == (s.size : Int)) = true := by rw [beq_iff_eq]; omega
        have HW : Hid (out.map (·.data.toList) ++ [(s.extract f k).data.toList] = cutW [] s.data.toList) := Lib.hid (by
          have := HH.out.1 hlt
          have hd : s.data.toList.drop k = [] := List.drop_of_length_le (by rw [heq]; exact Nat.le_refl _)
          rw [hd] at this
          exact this)
        have m3 : (0 : Int) ≤ (f : Int) := by omega
        have m4 : (f : Int) ≤ (k : Int) := by omega
        have m5 : ((f : Int)).toNat = f := by omega
        have m6 : ((k : Int)).toNat = k := by omega
        have HEQ := Lib.hid heq
        clear heq
        go_wp2_with (at_builtin; go_must (refine wpList_append_own _ rfl (.tmp 22) (.tmp 27) 50 rfl w.heap.size 9 inf0 _ 1 16 Tryz.underlying50 hi jz0 jz1 jz2 rfl (by decide) _ out.length _ rfl (own_below HO.out (by (repeat' (first | with_reducible exact Below.refl _ _ | with_reducible assumption | with_reducible refine Below.drew ?_ | with_reducible refine below_drewN ?_ _ | with_reducible refine Below.setCell ?_ ?_ _ | with_reducible refine Below.alloc ?_ ?_ _ | omega | (simp; done) | (simp; omega))))) ⟨wr.heap.size, 0, none⟩ 1 1 [.string (s.extract f k)] rfl rfl (cell_one_new _ _ _) (by simp [Value.oneCell']) (by unfold maxLen; omega) (by omega) (by simp; omega) ?_); intro v' w9 hown9 hgrow9 _)
        go_roundw
        case rel =>
          refine ⟨k + 1, k + 1, out ++ [s.extract f k], Nat.le_refl _, by omega, by go_num, by go_num, Own.snoc hown9 rfl rfl, ⟨fun hle => ?_, fun _ => ?_⟩, by rw [List.length_append, List.length_singleton]; omega, (Below.alloc hb hz _).grown hgrow9 (by simp; omega) (fun g hg => (HO.out.lt g hg).1)⟩
          · exact absurd hle (by have := HEQ.out; omega)
          · rw [List.map_append]; exact HW.out
        case measure => simp [intOf]; omega
      · have hlt2 : k < s.size := by omega
        have m2 : ((k : Int) == (s.size : Int)) = false := by rw [beq_eq_false_iff_ne]; omega
        obtain ⟨x, hx⟩ : ∃ x, s[k]'hlt2 = x := ⟨_, rfl⟩
        have i0 : ∀ hh, s[k]'hh = x := fun _ => hx
        have HX : Hid (s.data.toList[k]? = some x) := by show _ = _; rw [← hx]; simp [ByteArray.getElem_eq_getElem_data, hlt2]
        have HD : Hid (s.data.toList.drop k = x :: s.data.toList.drop (k + 1)) := by
          have h1 := (List.getElem?_eq_some_iff.1 HX.out)
          obtain ⟨h2, h3⟩ := h1
          show _ = _
          rw [List.drop_eq_getElem_cons h2, h3]
        have HI : Hid (out.map (·.data.toList) ++ cutW (s.extract f k).data.toList (x :: s.data.toList.drop (k + 1)) = cutW [] s.data.toList) := Lib.hid (by rw [← HD.out]; exact HH.out.1 hlt)
        have m3 : (0 : Int) ≤ (f : Int) := by omega
        have m4 : (f : Int) ≤ (k : Int) := by omega
        have m5 : ((f : Int)).toNat = f := by omega
        have m6 : ((k : Int)).toNat = k := by omega
        have m7 : (0 : Int) ≤ (k : Int) := by omega
        have m8 : (k : Int) < (s.size : Int) := by omega
        clear hx heq
        by_cases hdot : x = 46
        · subst hdot
          have HW : Hid (out.map (·.data.toList) ++ ((s.extract f k).data.toList :: cutW [] (s.data.toList.drop (k + 1))) = cutW [] s.data.toList) := Lib.hid (by
            have h1 : out.map (·.data.toList) ++ (if (46 : UInt8) = 46 then (s.extract f k).data.toList :: cutW [] (s.data.toList.drop (k + 1)) else _) = _ := HI.out
            rw [if_pos rfl] at h1
            exact h1)
          have m9 : (((46 : UInt8).toNat : Int) == 46) = true := by decide
          go_wp2_with (at_builtin; go_must (refine wpList_append_own _ rfl (.tmp 22) (.tmp 27) 50 rfl w.heap.size 9 inf0 _ 1 16 Tryz.underlying50 hi jz0 jz1 jz2 rfl (by decide) _ out.length _ rfl (own_below HO.out (by (repeat' (first | with_reducible exact Below.refl _ _ | with_reducible assumption | with_reducible refine Below.drew ?_ | with_reducible refine below_drewN ?_ _ | with_reducible refine Below.setCell ?_ ?_ _ | with_reducible refine Below.alloc ?_ ?_ _ | omega | (simp; done) | (simp; omega))))) ⟨wr.heap.size, 0, none⟩ 1 1 [.string (s.extract f k)] rfl rfl (cell_one_new _ _ _) (by simp [Value.oneCell']) (by unfold maxLen; omega) (by omega) (by simp; omega) ?_); intro v' w9 hown9 hgrow9 _)
          go_roundw
          case rel =>
            refine ⟨k + 1, k + 1, out ++ [s.extract f k], Nat.le_refl _, by omega, by go_num, by go_num, Own.snoc hown9 rfl rfl, ⟨fun hle => ?_, fun h => by omega⟩, by rw [List.length_append, List.length_singleton]; omega, (Below.alloc hb hz _).grown hgrow9 (by simp; omega) (fun g hg => (HO.out.lt g hg).1)⟩
            rw [ext_self, List.map_append, List.append_assoc]
            exact HW.out
          case measure => simp [intOf]; omega
        · have m9 : ((x.toNat : Int) == 46) = false := by rw [beq_eq_false_iff_ne]; intro h; exact hdot (UInt8.toNat_inj.1 (show x.toNat = (46 : UInt8).toNat by (have h46 : (46 : UInt8).toNat = 46 := rfl); omega))
          have HI2 : Hid (out.map (·.data.toList) ++ cutW (s.extract f (k + 1)).data.toList (s.data.toList.drop (k + 1)) = cutW [] s.data.toList) := Lib.hid (by
            rw [ext_snoc hfk HX.out]
            have h1 : out.map (·.data.toList) ++ (if x = 46 then _ else cutW ((s.extract f k).data.toList ++ [x]) (s.data.toList.drop (k + 1))) = _ := HI.out
            rw [if_neg hdot] at h1
            exact h1)
          clear hdot
          go_wp2_with fail
          go_roundw
          case rel => exact ⟨k + 1, f, out, by omega, by omega, rfl, by go_num, own_below HO.out (by (repeat' (first | with_reducible exact Below.refl _ _ | with_reducible assumption | with_reducible refine Below.drew ?_ | with_reducible refine below_drewN ?_ _ | with_reducible refine Below.setCell ?_ ?_ _ | with_reducible refine Below.alloc ?_ ?_ _ | omega | (simp; done) | (simp; omega)))), ⟨fun _ => HI2.out, fun h => by omega⟩, by omega, by (repeat' (first | with_reducible exact Below.refl _ _ | with_reducible assumption | with_reducible refine Below.drew ?_ | with_reducible refine below_drewN ?_ _ | with_reducible refine Below.setCell ?_ ?_ _ | with_reducible refine Below.alloc ?_ ?_ _ | omega | (simp; done) | (simp; omega)))⟩
          case measure => simp [intOf]; omega
    · have m1 : ¬ (k : Int) ≤ (s.size : Int) := by omega
      go_wp2_with fail
      go_ret
      exact ⟨⟨_, rfl, out, HO.out, HH.out.2 (by omega), by omega⟩, hb⟩


theorem cutW_len : ∀ (l acc x : List UInt8), x ∈ cutW acc l → x.length ≤ acc.length + l.length
  | [], acc, x, h => by
    unfold cutW at h
    simp at h
    subst h
    simp
  | c :: r, acc, x, h => by
    unfold cutW at h
    split at h
    · rcases List.mem_cons.1 h with rfl | h
      · omega
      · have := cutW_len r _ x h
        simp at this ⊢
        omega
    · have := cutW_len r _ x h
      simp at this ⊢
      omega
theorem map_get {α β : Type} {f : α → β} {l : List α} {m : List β} (h : l.map f = m) {k : Nat} {x : α} (hx : l[k]? = some x) : m[k]? = some (f x) := by
  rw [← h, List.getElem?_map, hx]; rfl
set_option maxRecDepth 10000 in
set_option maxHeartbeats 4000000 in
theorem nameG_any (s : ByteArray) (b : Bool) (w : World) (hb : nameB s = b) : Calls Tryz.prog 94 #[.string s] w fun e w' => e = .returned (.bool b) ∧ Below w.heap.size w w' := by
  by_cases h64 : 64 < s.size
  · obtain rfl : b = false := by rw [← hb]; exact nameB_big h64
    have e1 : (64 : Int) < (s.size : Int) := by omega
    clear hb
    go_enter Tryz.func94, Tryz.ntmps94
    go_wp2_with fail
    go_ret
    exact ⟨rfl, by (repeat' (first | with_reducible exact Below.refl _ _ | with_reducible assumption | with_reducible refine Below.drew ?_ | with_reducible refine below_drewN ?_ _ | with_reducible refine Below.setCell ?_ ?_ _ | with_reducible refine Below.alloc ?_ ?_ _ | omega | (simp; done) | (simp; omega)))⟩
  · have hbe : (cutW [] s.data.toList).all wordL = b := by rw [← hb, nameB_words, decide_eq_true (by omega)]; rfl
    have HB := Lib.hid hbe
    have e1 : ¬ (64 : Int) < (s.size : Int) := by omega
    clear hb hbe
    go_enter Tryz.func94, Tryz.ntmps94
    go_wp2_with fail
    refine (wordsG_any s _ (by omega)).mono ?_
    rintro e w1 ⟨⟨v, l, rfl, ho, hw, hl⟩, hb1⟩
    obtain ⟨A, c, rfl, hA1, hA2, hrow⟩ := Own.rows (fun x _ => encS_len x) ho
    have HR := Lib.hid hrow
    have HW := Lib.hid hw
    have hsz : Hid (∀ x ∈ l, x.size ≤ 100000) := Lib.hid (fun x hx => by
      have h1 : x.data.toList ∈ cutW [] s.data.toList := by rw [← hw]; exact List.mem_map_of_mem hx
      have h2 := cutW_len _ _ _ h1
      have h3 : s.data.toList.length = s.size := rfl
      have h4 : x.data.toList.length = x.size := rfl
      simp at h2
      omega)
    clear ho hw hrow
    go_wp2_with fail
    go_loopw [4] (fun i wr => ∃ k : Nat, k ≤ l.length ∧ i = .int .i64 k ∧ Hid (∀ j x, j < k → l[j]? = some x → wordL x.data.toList = true) ∧ Below w1.heap.size w1 wr) (fun i _ => l.length - (intOf i).toNat)
    case atStart => exact ⟨0, Nat.zero_le _, rfl, Lib.hid (fun j x h => by omega), Below.refl _ _⟩
    case round =>
      obtain ⟨k, hk, rfl, HI, hb⟩ := hrel
      by_cases hlt : k < l.length
      · have m1 : (k : Int) < (l.length : Int) := by omega
        obtain ⟨x, hx⟩ : ∃ x, l[k]? = some x := ⟨l[k], List.getElem?_eq_getElem hlt⟩
        obtain ⟨g, off, rfl, _, c0⟩ := cell1 (HR.out.below hb (Nat.le_refl _)) hx
        have HX := Lib.hid hx
        have hx2 := hsz.out x (List.mem_of_getElem? hx)
        clear hx
        cases hq : wordL x.data.toList with
        | true =>
          have HQ := Lib.hid hq
          clear hq
          go_wp2_with fail
          refine (wordG_any x true _ hx2 HQ.out).mono ?_
          rintro e w2 ⟨rfl, hb2⟩
          go_wp2_with fail
          go_roundw
          case rel => exact ⟨k + 1, by omega, by go_num, Lib.hid (fun j y hj hy => by
            rcases Nat.lt_or_ge j k with h | h
            · exact HI.out j y h hy
            · obtain rfl : j = k := by omega
              rw [HX.out] at hy
              injection hy with hy
              rw [← hy]; exact HQ.out), stepH hb hb2⟩
          case measure => simp [intOf] <;> omega
        | false =>
          have HQ := Lib.hid hq
          obtain rfl : b = false := by
            rw [← HB.out, Bool.eq_false_iff]
            intro h
            have := List.all_eq_true.1 h _ (List.mem_of_getElem? (map_get HW.out HX.out))
            rw [hq] at this
            cases this
          clear hq
          go_wp2_with fail
          refine (wordG_any x false _ hx2 HQ.out).mono ?_
          rintro e w2 ⟨rfl, hb2⟩
          have hw2 := stepH hb1 (stepH hb hb2)
          go_wp2_with fail
          go_ret
          exact ⟨rfl, hw2⟩
      · have m1 : ¬ (k : Int) < (l.length : Int) := by omega
        have hw2 := stepH hb1 hb
        obtain rfl : b = true := by
          rw [← HB.out, ← HW.out, List.all_map, List.all_eq_true]
          intro x hx
          obtain ⟨j, hj⟩ := List.getElem?_of_mem hx
          exact HI.out j x (by have := (List.getElem?_eq_some_iff.1 hj).1; omega) hj
        go_wp2_with fail
        go_ret
        exact ⟨rfl, hw2⟩
end

section
open Go.RowKit Go.Maps

theorem space_head {s : ByteArray} (h : nameB s = true) : (spaceB s).data.toList = (cutW [] s.data.toList).head (cutW_ne _ _) := by
  unfold spaceB cutB
  rw [if_pos h, (cut_first s.data.toList).1]
set_option maxRecDepth 10000 in
set_option maxHeartbeats 1000000 in
theorem spaceG_any (s x : ByteArray) (w : World) (hx : spaceB s = x) : Calls Tryz.prog 70 #[.string s] w fun e w' => e = .returned (.string x) ∧ Below w.heap.size w w' := by
  cases hn : nameB s with
  | false =>
    obtain rfl : x = ⟨#[]⟩ := by rw [← hx]; unfold spaceB; rw [hn]; rfl
    have HN := Lib.hid (nameG_any s false w hn)
    clear hn hx
    go_enter Tryz.func70, Tryz.ntmps70
    go_wp2_with fail
    refine HN.out.mono ?_
    rintro e w1 ⟨rfl, hb1⟩
    go_wp2_with fail
    go_ret
    exact ⟨rfl, hb1⟩
  | true =>
    have HN := Lib.hid (nameG_any s true w hn)
    have HX : Hid (x.data.toList = (cutW [] s.data.toList).head (cutW_ne _ _)) := Lib.hid (by rw [← hx]; exact space_head hn)
    have hsz : s.size ≤ 64 := nameB_size hn
    clear hn hx
    go_enter Tryz.func70, Tryz.ntmps70
    go_wp2_with fail
    refine HN.out.mono ?_
    rintro e w1 ⟨rfl, hb1⟩
    go_wp2_with fail
    refine (wordsG_any s _ hsz).mono ?_
    rintro e w2 ⟨⟨v, l, rfl, ho, hw, hl⟩, hb2⟩
    have hw2 := stepH hb1 hb2
    obtain ⟨A, c, rfl, _, _, hrow⟩ := Own.rows (fun x _ => encS_len x) ho
    obtain ⟨x0, r0, rfl⟩ : ∃ x0 r0, l = x0 :: r0 := by
      cases l with
      | nil => exact absurd hw.symm (cutW_ne _ _)
      | cons a b => exact ⟨a, b, rfl⟩
    obtain rfl : x0 = x := by
      refine ba_inj ?_
      rw [HX.out]
      simp only [← hw]
      rfl
    obtain ⟨g, off, rfl, _, c0⟩ := cell1 (k := 0) hrow rfl
    rw [Nat.add_zero] at c0
    have hl0 : (0 : Int) < ((x0 :: r0).length : Int) := by simp
    clear ho hw hrow
    go_wp2_with fail
    go_ret
    exact ⟨rfl, hw2⟩
theorem rest_cases {s : ByteArray} (h : nameB s = true) : (spaceB s).size ≤ s.size ∧ (spaceB s).toList.isEmpty = false ∧ ((spaceB s).size = s.size → restB s = ⟨#[]⟩) ∧ ((spaceB s).size < s.size → restB s = s.extract ((spaceB s).size + 1) s.size) := by
  have h1 := space_head h
  have h2 := (cut_first s.data.toList).2.1
  have hr : (restB s).data.toList = s.data.toList.drop ((spaceB s).size + 1) := by
    unfold restB cutB
    rw [if_pos h]
    show (Lib.cut s.data.toList [46]).2.1 = _
    rw [h2, ← h1]
    rfl
  have hle : (spaceB s).size ≤ s.size := by
    have := cutW_len s.data.toList [] _ (List.head_mem (cutW_ne [] s.data.toList))
    rw [← h1] at this
    simpa using this
  refine ⟨hle, ?_, fun e => ?_, fun hlt => ?_⟩
  · have hw : wordL (spaceB s).data.toList = true := by
      rw [nameB_words, Bool.and_eq_true] at h
      rw [h1]
      exact List.all_eq_true.1 h.2 _ (List.head_mem _)
    rw [ByteArray.toList_eq]
    cases hq : (spaceB s).data.toList with
    | nil => rw [hq] at hw; cases hw
    | cons a b => rfl
  · refine ba_inj ?_
    rw [hr, e]
    exact List.drop_of_length_le (by show s.size ≤ _; omega)
  · refine ba_inj ?_
    rw [hr, Lib.extract_to_end]
set_option maxRecDepth 10000 in
set_option maxHeartbeats 1000000 in
theorem restG_any (s y : ByteArray) (w : World) (hy : restB s = y) : Calls Tryz.prog 71 #[.string s] w fun e w' => e = .returned (.string y) ∧ Below w.heap.size w w' := by
  cases hn : nameB s with
  | false =>
    have HS := Lib.hid (spaceG_any s ⟨#[]⟩ w (by unfold spaceB; rw [hn]; rfl))
    obtain rfl : y = ⟨#[]⟩ := by rw [← hy]; unfold restB; rw [hn]; rfl
    clear hn hy
    go_enter Tryz.func71, Tryz.ntmps71
    go_wp2_with fail
    refine HS.out.mono ?_
    rintro e w1 ⟨rfl, hb1⟩
    go_wp2_with fail
    go_ret
    exact ⟨rfl, hb1⟩
  | true =>
    obtain ⟨h1, h2, h3, h4⟩ := rest_cases hn
    have hsz : s.size ≤ 64 := nameB_size hn
    obtain ⟨x, hx⟩ : ∃ x, spaceB s = x := ⟨_, rfl⟩
    have HS := Lib.hid (spaceG_any s x w hx)
    rw [hx] at h1 h2 h3 h4
    by_cases he : x.size = s.size
    · obtain rfl : y = ⟨#[]⟩ := by rw [← hy]; exact h3 he
      have he2 : ((x.size : Int) == (s.size : Int)) = true := by rw [beq_iff_eq]; omega
      clear hn hy h1 h3 h4 he hx
      go_enter Tryz.func71, Tryz.ntmps71
      go_wp2_with fail
      refine HS.out.mono ?_
      rintro e w1 ⟨rfl, hb1⟩
      go_wp2_with fail
      go_ret
      exact ⟨rfl, hb1⟩
    · obtain rfl : y = s.extract (x.size + 1) s.size := by rw [← hy]; exact h4 (by omega)
      have he2 : ((x.size : Int) == (s.size : Int)) = false := by rw [beq_eq_false_iff_ne]; omega
      have f1 : (0 : Int) ≤ (x.size : Int) + 1 := by omega
      have f2 : (x.size : Int) + 1 ≤ (s.size : Int) := by omega
      have f3 : ((x.size : Int) + 1).toNat = x.size + 1 := by omega
      have f4 : IntKind.i64.wrap ((x.size : Int) + 1) = (x.size : Int) + 1 := by rw [IntKind.wrap_i64]; omega
      clear hn hy h1 h3 h4 he hx
      go_enter Tryz.func71, Tryz.ntmps71
      go_wp2_with fail
      refine HS.out.mono ?_
      rintro e w1 ⟨rfl, hb1⟩
      go_wp2_with fail
      go_ret
      exact ⟨rfl, hb1⟩
set_option maxRecDepth 10000 in
set_option maxHeartbeats 1000000 in
theorem inputG_any (s : ByteArray) (b : Bool) (w : World) (hb : inB s = b) : Calls Tryz.prog 45 #[.string s] w fun e w' => e = .returned (.bool b) ∧ Below w.heap.size w w' := by
  obtain ⟨x, hx⟩ : ∃ x, spaceB s = x := ⟨_, rfl⟩
  obtain ⟨y, hy⟩ : ∃ y, restB s = y := ⟨_, rfl⟩
  have HS := Lib.hid (fun W => spaceG_any s x W hx)
  have HR := Lib.hid (fun W => restG_any s y W hy)
  have HQ : (x.toList == [105, 110] && !y.toList.isEmpty) = b := by rw [← hb]; unfold inB; rw [hx, hy]
  clear hx hy hb
  cases h1 : (x.toList == [105, 110]) with
  | false =>
    obtain rfl : b = false := by rw [← HQ, h1]; rfl
    clear HQ
    go_enter Tryz.func45, Tryz.ntmps45
    go_wp2_with fail
    refine (HS.out _).mono ?_
    rintro e w1 ⟨rfl, hb⟩
    go_wp2_with fail
    go_ret
    exact ⟨rfl, hb⟩
  | true =>
    cases h2 : y.toList.isEmpty with
    | true =>
      obtain rfl : b = false := by rw [← HQ, h1, h2]; rfl
      clear HQ
      go_enter Tryz.func45, Tryz.ntmps45
      go_wp2_with fail
      refine (HS.out _).mono ?_
      rintro e w1 ⟨rfl, hb⟩
      go_wp2_with fail
      refine (HR.out w1).mono ?_
      rintro e w2 ⟨rfl, hb2⟩
      have hw2 := stepH hb hb2
      go_wp2_with fail
      go_ret
      exact ⟨rfl, hw2⟩
    | false =>
      obtain rfl : b = true := by rw [← HQ, h1, h2]; rfl
      clear HQ
      go_enter Tryz.func45, Tryz.ntmps45
      go_wp2_with fail
      refine (HS.out _).mono ?_
      rintro e w1 ⟨rfl, hb⟩
      go_wp2_with fail
      refine (HR.out w1).mono ?_
      rintro e w2 ⟨rfl, hb2⟩
      have hw2 := stepH hb hb2
      go_wp2_with fail
      go_ret
      exact ⟨rfl, hw2⟩
end

section
open Go.RowKit Go.Maps

set_option maxHeartbeats 400000 in
theorem gcd_any (a b : Nat) (w : World) (ha : a ≤ 9223372036854775807) (hb : b ≤ 9223372036854775807) :
    Calls Tryz.prog 72 #[.int .i64 a, .int .i64 b] w fun e w' => e = .returned (.int .i64 (Nat.gcd a b : Nat)) ∧ Below w.heap.size w w' := by
  go_enter Tryz.func72, Tryz.ntmps72
  go_wp2
  go_loopw [0, 1] (fun p q wr => ∃ x y : Nat, p = .int .i64 x ∧ q = .int .i64 y ∧ x ≤ 9223372036854775807 ∧ y ≤ 9223372036854775807 ∧ Hid (Nat.gcd x y = Nat.gcd a b) ∧ Below w.heap.size w wr) (fun _ q _ => (intOf q).toNat)
  case atStart => exact ⟨a, b, rfl, rfl, ha, hb, rfl, Below.refl _ _⟩
  case round =>
    obtain ⟨x, y, rfl, rfl, hx, hy, hg, hbw⟩ := hrel
    by_cases h0 : y = 0
    · subst h0
      go_wp2
      go_ret
      exact ⟨by rw [← hg.out]; simp, hbw⟩
    · go_wp2
      go_quiet (fail)
      go_wp2
      go_roundw
      case rel => exact ⟨y, x % y, rfl, by go_num, by omega, by have := Nat.mod_le x y; omega, (gcd_step x y).trans hg.out, below_drewN hbw _⟩
      case measure => have := Nat.mod_lt x (show 0 < y by omega); simp [intOf]; omega


set_option maxRecDepth 10000 in
set_option maxHeartbeats 1000000 in
theorem refValid_any (n d : Int) (w : World) (n1 : -9223372036854775808 ≤ n) (n2 : n ≤ 9223372036854775807) (d1 : -9223372036854775808 ≤ d) (d2 : d ≤ 9223372036854775807) :
    Calls Tryz.prog 46 #[pv n d] w fun e w' => e = .returned (.bool (validB n d)) ∧ Below w.heap.size w w' := by
  unfold pv
  by_cases h1 : d < 1
  · go_enter Tryz.func46, Tryz.ntmps46
    go_wp2
    go_ret
    exact ⟨ret_bool (by unfold validB; simp; omega), (Below.refl _ _).alloc (Nat.le_refl _) _⟩
  by_cases h2 : 1000000 < d
  · go_enter Tryz.func46, Tryz.ntmps46
    go_wp2
    go_ret
    exact ⟨ret_bool (by unfold validB; simp; omega), (Below.refl _ _).alloc (Nat.le_refl _) _⟩
  by_cases h3 : n < -1000000000000
  · go_enter Tryz.func46, Tryz.ntmps46
    go_wp2
    go_ret
    exact ⟨ret_bool (by unfold validB; simp; omega), (Below.refl _ _).alloc (Nat.le_refl _) _⟩
  by_cases h4 : 1000000000000 < n
  · go_enter Tryz.func46, Tryz.ntmps46
    go_wp2
    go_ret
    exact ⟨ret_bool (by unfold validB; simp; omega), (Below.refl _ _).alloc (Nat.le_refl _) _⟩
  obtain ⟨m, rfl⟩ := Int.eq_ofNat_of_zero_le (show 0 ≤ d by omega)
  have hfin : validB n m = (((Nat.gcd n.natAbs m : Nat) : Int) == 1) := by
    unfold validB
    have e : Int.gcd n (m : Int) = Nat.gcd n.natAbs m := rfl
    rw [e, Bool.eq_iff_iff, decide_eq_true_eq, beq_iff_eq]
    omega
  have Hfin := Lib.hid hfin
  clear hfin
  have HC := Lib.hid gcd_any
  by_cases h5 : 0 ≤ n
  · obtain ⟨k, rfl⟩ := Int.eq_ofNat_of_zero_le h5
    go_enter Tryz.func46, Tryz.ntmps46
    go_wp2_with fail
    first | rw [show max (k : Int) (-(k : Int)) = (k : Int) by omega] | rw [show max (-(k : Int)) (k : Int) = (k : Int) by omega] | rw [show max (-(k : Int)) (- -(k : Int)) = (k : Int) by omega]
    refine (HC.out k m _ (by omega) (by omega)).mono ?_
    rintro e w1 ⟨rfl, hb⟩
    have hw1 : Below w.heap.size w w1 := stepH (by (repeat' (first | with_reducible exact Below.refl _ _ | with_reducible assumption | with_reducible refine Below.drew ?_ | with_reducible refine below_drewN ?_ _ | with_reducible refine Below.setCell ?_ ?_ _ | with_reducible refine Below.alloc ?_ ?_ _ | omega | (simp; done) | (simp; omega)))) hb
    go_wp2_with fail
    go_ret
    exact ⟨ret_bool Hfin.out.symm, hw1⟩
  · obtain ⟨k, rfl⟩ : ∃ k : Nat, n = -(k : Int) := ⟨(-n).toNat, by omega⟩
    go_enter Tryz.func46, Tryz.ntmps46
    go_wp2_with fail
    first | rw [show max (k : Int) (-(k : Int)) = (k : Int) by omega] | rw [show max (-(k : Int)) (k : Int) = (k : Int) by omega] | rw [show max (-(k : Int)) (- -(k : Int)) = (k : Int) by omega]
    refine (HC.out k m _ (by omega) (by omega)).mono ?_
    rintro e w1 ⟨rfl, hb⟩
    have hw1 : Below w.heap.size w w1 := stepH (by (repeat' (first | with_reducible exact Below.refl _ _ | with_reducible assumption | with_reducible refine Below.drew ?_ | with_reducible refine below_drewN ?_ _ | with_reducible refine Below.setCell ?_ ?_ _ | with_reducible refine Below.alloc ?_ ?_ _ | omega | (simp; done) | (simp; omega)))) hb
    go_wp2_with fail
    go_ret
    exact ⟨ret_bool (Hfin.out.trans (by simp)).symm, hw1⟩
theorem validR_is (n d : Int) (b : Bool) (w : World) (h : validB n d = b) (hn : In8 n) (hd : In8 d) :
    Calls Tryz.prog 46 #[.agg #[.int .i64 n, .int .i64 d]] w fun e w' => e = .returned (.bool b) ∧ Below w.heap.size w w' := by
  subst h; exact refValid_any n d w hn.1 hn.2 hd.1 hd.2
end

section
open Go.RowKit Go.Maps

/-- the loop's step -/
def ovS (c : Ch) (p : List Ch × Bool) (x : Ch) : List Ch × Bool :=
  let q := if p.2 = false ∧ leB (nmb c) (nmb x) = true then (p.1 ++ [c], true) else p
  if nmb x = nmb c then q else (q.1 ++ [x], q.2)
def overC (l : List Ch) (c : Ch) : List Ch := if (l.foldl (ovS c) ([], false)).2 = true then (l.foldl (ovS c) ([], false)).1 else (l.foldl (ovS c) ([], false)).1 ++ [c]
def loC (c : Ch) (p : List Ch) : List Ch := p.filter (fun x => !leB (nmb c) (nmb x))
def hiC (c : Ch) (p : List Ch) : List Ch := p.filter (fun x => leB (nmb c) (nmb x) && !decide (nmb x = nmb c))
def stt (c : Ch) (p : List Ch) : List Ch × Bool := if p.any (fun x => leB (nmb c) (nmb x)) = true then (loC c p ++ c :: hiC c p, true) else (loC c p, false)
theorem hiC_nil {c : Ch} {p : List Ch} (h : ¬ p.any (fun x => leB (nmb c) (nmb x)) = true) : hiC c p = [] := by
  unfold hiC
  rw [List.filter_eq_nil_iff]
  intro x hx q
  rw [Bool.and_eq_true] at q
  exact h (List.any_eq_true.2 ⟨x, hx, q.1⟩)
theorem leB_refl (x : List UInt8) : leB x x = true := by simp only [leB, decide_eq_true_eq]; exact List.le_refl x
theorem stt_pos {c : Ch} {p : List Ch} (h : p.any (fun x => leB (nmb c) (nmb x)) = true) : stt c p = (loC c p ++ c :: hiC c p, true) := if_pos h
theorem stt_neg {c : Ch} {p : List Ch} (h : ¬ p.any (fun x => leB (nmb c) (nmb x)) = true) : stt c p = (loC c p, false) := if_neg h
theorem ovS_done (c x : Ch) (a : List Ch) (he : nmb x ≠ nmb c) : ovS c (a, true) x = (a ++ [x], true) := by
  unfold ovS
  have e : (if true = false ∧ leB (nmb c) (nmb x) = true then (a ++ [c], true) else (a, true)) = (a, true) := if_neg (fun q => by cases q.1)
  dsimp only
  rw [e, if_neg he]
theorem ovS_here (c x : Ch) (a : List Ch) (hx : leB (nmb c) (nmb x) = true) : ovS c (a, false) x = if nmb x = nmb c then (a ++ [c], true) else (a ++ [c] ++ [x], true) := by
  unfold ovS
  have e : (if false = false ∧ leB (nmb c) (nmb x) = true then (a ++ [c], true) else (a, false)) = (a ++ [c], true) := if_pos ⟨rfl, hx⟩
  dsimp only
  rw [e]
theorem ovS_ahead (c x : Ch) (a : List Ch) (hx : leB (nmb c) (nmb x) = false) (he : nmb x ≠ nmb c) : ovS c (a, false) x = (a ++ [x], false) := by
  unfold ovS
  have e : (if false = false ∧ leB (nmb c) (nmb x) = true then (a ++ [c], true) else (a, false)) = (a, false) := if_neg (fun q => by rw [hx] at q; cases q.2)
  dsimp only
  rw [e, if_neg he]
theorem loC_snoc (c x : Ch) (p : List Ch) : loC c (p ++ [x]) = loC c p ++ (if leB (nmb c) (nmb x) = true then [] else [x]) := by
  unfold loC
  rw [List.filter_append, List.filter_cons, List.filter_nil]
  cases leB (nmb c) (nmb x) <;> rfl
theorem hiC_snoc (c x : Ch) (p : List Ch) : hiC c (p ++ [x]) = hiC c p ++ (if leB (nmb c) (nmb x) = true ∧ nmb x ≠ nmb c then [x] else []) := by
  unfold hiC
  rw [List.filter_append, List.filter_cons, List.filter_nil]
  congr 1
  cases hx : leB (nmb c) (nmb x) with
  | false => simp
  | true =>
    by_cases e : nmb x = nmb c
    · rw [if_neg (by rw [decide_eq_true e]; simp), if_neg (fun q => q.2 e)]
    · rw [if_pos (by rw [decide_eq_false e]; rfl), if_pos ⟨rfl, e⟩]
theorem any_snoc (c x : Ch) (p : List Ch) : (p ++ [x]).any (fun x => leB (nmb c) (nmb x)) = (p.any (fun x => leB (nmb c) (nmb x)) || leB (nmb c) (nmb x)) := by
  rw [List.any_append]
  simp only [List.any_cons, List.any_nil, Bool.or_false]
theorem ovS_step {c x : Ch} {p : List Ch} (h : ∀ y ∈ p, leB (nmb y) (nmb x) = true ∧ nmb y ≠ nmb x) : ovS c (stt c p) x = stt c (p ++ [x]) := by
  by_cases ha : p.any (fun x => leB (nmb c) (nmb x)) = true
  · obtain ⟨y, hy, hcy⟩ := List.any_eq_true.1 ha
    obtain ⟨h1, h2⟩ := h y hy
    have hx := leB_trans _ _ _ hcy h1
    have he : nmb x ≠ nmb c := fun e => h2 (leB_anti h1 (by rw [e]; exact hcy))
    rw [stt_pos ha, stt_pos (p := p ++ [x]) (by rw [any_snoc, ha]; rfl), ovS_done c x _ he, loC_snoc, hiC_snoc, if_pos hx, if_pos ⟨hx, he⟩, List.append_nil, List.append_assoc]
    rfl
  · have hn := hiC_nil ha
    cases hx : leB (nmb c) (nmb x) with
    | true =>
      rw [stt_neg ha, stt_pos (p := p ++ [x]) (by rw [any_snoc, hx, Bool.or_true]), ovS_here c x _ hx, loC_snoc, hiC_snoc, hn, if_pos hx, List.append_nil]
      by_cases e : nmb x = nmb c
      · rw [if_pos e, if_neg (fun q => q.2 e)]; rfl
      · rw [if_neg e, if_pos ⟨hx, e⟩, List.append_assoc]; rfl
    | false =>
      have e : nmb x ≠ nmb c := fun e => by rw [e, leB_refl] at hx; cases hx
      have ha2 : ¬ (p ++ [x]).any (fun x => leB (nmb c) (nmb x)) = true := by
        rw [any_snoc, hx, Bool.or_false]; exact ha
      rw [stt_neg ha, stt_neg ha2, ovS_ahead c x _ hx e, loC_snoc, if_neg (by rw [hx]; simp)]
theorem ov_fold {c : Ch} : ∀ (r p : List Ch), (p ++ r).Pairwise (fun a b => leB (nmb a) (nmb b) = true ∧ nmb a ≠ nmb b) → r.foldl (ovS c) (stt c p) = stt c (p ++ r)
  | [], p, _ => by simp
  | x :: r, p, h => by
    have h1 : ∀ y ∈ p, leB (nmb y) (nmb x) = true ∧ nmb y ≠ nmb x := fun y hy => (List.pairwise_append.1 h).2.2 y hy x (List.mem_cons_self ..)
    rw [List.foldl_cons, ovS_step h1, ov_fold r (p ++ [x]) (by rw [List.append_assoc]; exact h), List.append_assoc]
    rfl
theorem canon_pairs {f : Am} {l : List Ch} (h : Canon f l) : l.Pairwise (fun a b => leB (nmb a) (nmb b) = true ∧ nmb a ≠ nmb b) := by
  have h1 := List.pairwise_map.1 h.keys.sorted
  have h2 := List.pairwise_map.1 h.keys.nodup
  exact h1.and h2
theorem overC_eq {f : Am} {l : List Ch} {c : Ch} (h : Canon f l) : overC l c = loC c l ++ c :: hiC c l := by
  have := ov_fold (c := c) l [] (by simpa using canon_pairs h)
  rw [List.nil_append, show stt c [] = ([], false) from rfl] at this
  unfold overC
  rw [this]
  unfold stt
  by_cases ha : l.any (fun x => leB (nmb c) (nmb x)) = true
  · simp [ha]
  · simp [ha, hiC_nil ha]
theorem over_canon {f : Am} {l : List Ch} {c : Ch} (h : Canon f l) : Canon (putA f c) (overC l c) := by
  rw [overC_eq h]
  have hlo : ∀ x ∈ loC c l, x ∈ l ∧ leB (nmb c) (nmb x) = false := fun x hx => by
    obtain ⟨h1, h2⟩ := List.mem_filter.1 hx
    exact ⟨h1, by simpa using h2⟩
  have hhi : ∀ x ∈ hiC c l, x ∈ l ∧ leB (nmb c) (nmb x) = true ∧ nmb x ≠ nmb c := fun x hx => by
    obtain ⟨h1, h2⟩ := List.mem_filter.1 hx
    rw [Bool.and_eq_true] at h2
    exact ⟨h1, h2.1, by simpa using h2.2⟩
  have hne : ∀ x ∈ loC c l, nmb x ≠ nmb c := fun x hx e => by have := (hlo x hx).2; rw [e, leB_refl] at this; cases this
  have hle : ∀ x ∈ loC c l, leB (nmb x) (nmb c) = true := fun x hx => by
    have := leB_total (nmb c) (nmb x)
    rw [(hlo x hx).2] at this
    simpa using this
  have hp : (loC c l ++ c :: hiC c l).Pairwise (fun a b => leB (nmb a) (nmb b) = true ∧ nmb a ≠ nmb b) := by
    have q := canon_pairs h
    refine List.pairwise_append.2 ⟨q.sublist List.filter_sublist, List.pairwise_cons.2 ⟨fun y hy => ⟨(hhi y hy).2.1, fun e => (hhi y hy).2.2 e.symm⟩, q.sublist List.filter_sublist⟩, fun a ha b hb => ?_⟩
    rcases List.mem_cons.1 hb with rfl | hb
    · exact ⟨hle a ha, hne a ha⟩
    · refine ⟨leB_trans _ _ _ (hle a ha) (hhi b hb).2.1, fun e => ?_⟩
      have := (hlo a ha).2
      rw [e, (hhi b hb).2.1] at this
      cases this
  refine ⟨⟨List.pairwise_map.2 (hp.imp fun q => q.1), List.pairwise_map.2 (hp.imp fun q => q.2), fun y => ?_⟩, fun x hx => ?_⟩
  · unfold putA
    rw [List.map_append, List.map_cons, List.mem_append, List.mem_cons]
    by_cases e : y = nmb c
    · rw [if_pos e]; simp [e]
    · rw [if_neg e, ← h.keys.mem]
      constructor
      · rintro (q | q | q)
        · obtain ⟨x, hx, rfl⟩ := List.mem_map.1 q
          exact List.mem_map_of_mem (hlo x hx).1
        · exact absurd q e
        · obtain ⟨x, hx, rfl⟩ := List.mem_map.1 q
          exact List.mem_map_of_mem (hhi x hx).1
      · intro q
        obtain ⟨x, hx, rfl⟩ := List.mem_map.1 q
        cases hq : leB (nmb c) (nmb x) with
        | false => exact .inl (List.mem_map_of_mem (List.mem_filter.2 ⟨hx, by simp [hq]⟩))
        | true => exact .inr (.inr (List.mem_map_of_mem (List.mem_filter.2 ⟨hx, by simp [hq, e]⟩)))
  · unfold putA
    rcases List.mem_append.1 hx with q | q
    · rw [if_neg (hne x q)]; exact h.at' x (hlo x q).1
    · rcases List.mem_cons.1 q with rfl | q
      · rw [if_pos rfl]
      · rw [if_neg (hhi x q).2.2]; exact h.at' x (hhi x q).1
end

section
open Go.RowKit Go.Maps

theorem geq_law (x y : ByteArray) {b : Bool} (h : leB y.data.toList x.data.toList = b) : (!Op.bytesLess x.toList y.toList) = b := by
  rw [ByteArray.toList_eq, ByteArray.toList_eq, bytesLess_eq, ← h]
  unfold leB
  rw [Bool.eq_iff_iff]
  simp
theorem eq_law (x y : ByteArray) {b : Bool} (h : decide (x.data.toList = y.data.toList) = b) : (x.toList == y.toList) = b := by
  rw [ByteArray.toList_eq, ByteArray.toList_eq, ← h, Bool.eq_iff_iff]
  simp only [beq_iff_eq, decide_eq_true_eq]
set_option maxRecDepth 100000 in
set_option maxHeartbeats 8000000 in
theorem overC_any (l : List Ch) (c : Ch) (A : Option Addr) (cp : Nat) (w : World) (hl : RowAt chL 4 w w.heap.size A l) (hN : l.length ≤ 1000) :
    Calls Tryz.prog 47 #[.slice A l.length cp, chV c] w fun e w' => (∃ v, e = .returned v ∧ Own chL 4 41 w.heap.size w' v (overC l c)) ∧ Below w.heap.size w w' := by
  obtain ⟨inf0, hi, jz0, jz1, jz2⟩ := info_parts infoCh
  obtain ⟨MC, hMC, hmk⟩ : ∃ MC : Array Value, MC.size = (l.length + 1) * 4 ∧ ∀ w : World, (Instr.makeSlice 23 (.int .i64 0) (.int .i64 ((l.length : Int) + 1))).run Tryz.prog w = .ok (.slice (some ⟨w.heap.size, 0, none⟩) 0 (l.length + 1)) (w.alloc (.cells MC 41)) := by
    refine ⟨madeCells (Value.agg #[.string ⟨#[]⟩, .bool false, .int .i64 0, .int .i64 0]).cells ((l.length + 1) * inf0.size), by rw [size_madeCells, jz1], fun w => ?_⟩
    have h := run_make (P := Tryz.prog) (w := w) 23 41 inf0 _ Tryz.underlying23 hi jz0 .i64 .i64 0 ((l.length : Int) + 1) (Int.le_refl _) (by omega) (by rw [jz2]; omega) (by omega)
    rw [show ((l.length : Int) + 1).toNat = l.length + 1 by omega] at h
    simpa using h
  have HL := Lib.hid hl
  clear hl
  unfold chV
  go_enter Tryz.func47, Tryz.ntmps47
  go_wp2_with fail
  obtain ⟨w1, hw1e⟩ : ∃ q, (w.alloc (.cells #[.string c.name, .bool c.clear, .int .i64 c.n, .int .i64 c.d] 41)).alloc (.cells MC 41) = q := ⟨_, rfl⟩
  have hb1 : Below w.heap.size w w1 := by rw [← hw1e]; (repeat' (first | with_reducible exact Below.refl _ _ | with_reducible assumption | with_reducible refine Below.drew ?_ | with_reducible refine below_drewN ?_ _ | with_reducible refine Below.setCell ?_ ?_ _ | with_reducible refine Below.alloc ?_ ?_ _ | omega | (simp; done) | (simp; omega)))
  have BX : Hid (w1.heap[w.heap.size]? = some (.cells #[.string c.name, .bool c.clear, .int .i64 c.n, .int .i64 c.d] 41 (0, 0))) := Lib.hid (by rw [← hw1e]; exact blk_old (blk_new rfl))
  have HO1 : Hid (Own chL 4 41 (w.heap.size + 1) w1 (.slice (some ⟨w.heap.size + 1, 0, none⟩) 0 (l.length + 1)) []) := Lib.hid (by rw [← hw1e]; exact made_own (by simp) (Nat.le_refl _) (by unfold maxLen; omega) hMC)
  have hz1 : w1.heap.size = w.heap.size + 2 := by rw [← hw1e]; simp
  rw [hw1e]
  clear hw1e hmk hMC
  go_loopw [5, 6, 7] (fun u d i wr => ∃ (k : Nat) (L : List Ch) (b : Bool), k ≤ l.length ∧ i = .int .i64 k ∧ d = .bool b ∧ Hid (Own chL 4 41 (w.heap.size + 1) wr u L) ∧ Hid ((l.take k).foldl (ovS c) ([], false) = (L, b)) ∧ L.length ≤ k + b.toNat ∧ Below (w.heap.size + 1) w1 wr) (fun _ _ i _ => l.length - (intOf i).toNat)
  case atStart => exact ⟨0, [], false, Nat.zero_le _, rfl, rfl, HO1, Lib.hid rfl, by simp, Below.refl _ _⟩
  case round =>
    clear HO1
    obtain ⟨k, L, b, hk, rfl, rfl, HROW, HF, hLk, hwq⟩ := hrel
    have zq := hwq.size
    have hwr : Below w.heap.size w wr := hb1.trans (hwq.mono (by omega))
    have BR : Hid (wr.heap[w.heap.size]? = some (.cells #[.string c.name, .bool c.clear, .int .i64 c.n, .int .i64 c.d] 41 (0, 0))) := Lib.hid ((hwq.block _ (by omega)).trans BX.out)
    have cB := cellH BR
    by_cases hlt : k < l.length
    · obtain ⟨x, hx⟩ : ∃ x, l[k]? = some x := ⟨l[k], List.getElem?_eq_getElem hlt⟩
      obtain ⟨g1, o1, rfl, hg1, p0, p1, p2, p3⟩ := cellsC (HL.out.below hwr (Nat.le_refl _)) hx
      have HX := Lib.hid hx
      have HRW := Lib.hid HROW.out
      have hlt2 : (k : Int) < (l.length : Int) := by omega
      clear hx
      cases b with
      | true =>
        replace hLk : L.length ≤ k + 1 := hLk
        go_wp2_with fail
        go_quiet (fail)
        obtain ⟨wd, hwd⟩ : ∃ q, wr.drewN nq = q := ⟨_, rfl⟩
        have hd : Below wr.heap.size wr wd := by rw [← hwd]; (repeat' (first | with_reducible exact Below.refl _ _ | with_reducible assumption | with_reducible refine Below.drew ?_ | with_reducible refine below_drewN ?_ _ | with_reducible refine Below.setCell ?_ ?_ _ | with_reducible refine Below.alloc ?_ ?_ _ | omega | (simp; done) | (simp; omega)))
        rw [hwd]
        have BD := keepH hd BR.out
        have t0 := cell_at p0 hd
        have t1 := cell_at p1 hd
        have t2 := cell_at p2 hd
        have t3 := cell_at p3 hd
        have HOd := Lib.hid (own_below HRW.out hd)
        have hwqd := hwq.trans (hd.mono (by omega))
        have zd := hwqd.size
        clear hwd p0 p1 p2 p3 cB
        have cD := cellH BD
        cases he : decide (x.name.data.toList = c.name.data.toList) with
        | true =>
          have hne := eq_law x.name c.name he
          have HE := Lib.hid (of_decide_eq_true he)
          clear he
          go_wp2_with fail
          have y0 : wd.drew.cell? ⟨g1, o1 + k * 4, none⟩ = some (.string x.name) := t0
          have y1 : wd.drew.cell? ⟨w.heap.size, 0, none⟩ = some (.string c.name) := cD 0
          go_region_held3 (fun w' => w'.cell? ⟨g1, o1 + k * 4, none⟩ = some (.string x.name) ∧ w'.cell? ⟨w.heap.size, 0, none⟩ = some (.string c.name)) (first | with_reducible exact ⟨y0, y1⟩ | go_keep)
            (fail)
          go_wp2_with fail
          go_roundw
          case rel => exact ⟨k + 1, L, true, by omega, by go_num, rfl, Lib.hid (own_below HOd.out (by (repeat' (first | with_reducible exact Below.refl _ _ | with_reducible assumption | with_reducible refine Below.drew ?_ | with_reducible refine below_drewN ?_ _ | with_reducible refine Below.setCell ?_ ?_ _ | with_reducible refine Below.alloc ?_ ?_ _ | omega | (simp; done) | (simp; omega))))), Lib.hid (by rw [foldl_snoc HX.out, HF.out]; unfold ovS; exact if_pos HE.out), (by show _ ≤ k + 1 + 1; omega), by (repeat' (first | with_reducible exact Below.refl _ _ | with_reducible assumption | with_reducible refine Below.drew ?_ | with_reducible refine below_drewN ?_ _ | with_reducible refine Below.setCell ?_ ?_ _ | with_reducible refine Below.alloc ?_ ?_ _ | omega | (simp; done) | (simp; omega)))⟩
          case measure => simp [intOf] <;> omega
        | false =>
          have hne := eq_law x.name c.name he
          have HE := Lib.hid (of_decide_eq_false he)
          clear he
          go_wp2_with fail
          have y0 : wd.drew.cell? ⟨g1, o1 + k * 4, none⟩ = some (.string x.name) := t0
          have y1 : wd.drew.cell? ⟨w.heap.size, 0, none⟩ = some (.string c.name) := cD 0
          go_region_held3 (fun w' => w'.cell? ⟨g1, o1 + k * 4, none⟩ = some (.string x.name) ∧ w'.cell? ⟨w.heap.size, 0, none⟩ = some (.string c.name)) (first | with_reducible exact ⟨y0, y1⟩ | go_keep)
            (fail)
          have t0' := cell_at t0 (Below.refl wd.heap.size wd).drew
          go_wp2_with (at_builtin; go_must (refine wpList_append_lies _ rfl (.tmp 42) (.tmp 47) 23 rfl (w.heap.size + 1) 41 inf0 _ 4 40 Tryz.underlying23 hi jz0 jz1 jz2 rfl (by decide) _ L.length _ rfl (own_below HOd.out (by (repeat' (first | with_reducible exact Below.refl _ _ | with_reducible assumption | with_reducible refine Below.drew ?_ | with_reducible refine below_drewN ?_ _ | with_reducible refine Below.setCell ?_ ?_ _ | with_reducible refine Below.alloc ?_ ?_ _ | omega | (simp; done) | (simp; omega))))) ⟨wd.heap.size, 0, none⟩ 1 1 [.string x.name, .bool x.clear, .int .i64 x.n, .int .i64 x.d] rfl rfl (World.news_of_block (cs := #[.string x.name, .bool x.clear, .int .i64 x.n, .int .i64 x.d]) (blk_new rfl)) (by simp [Value.oneCell']) (by decide) (by unfold maxLen; omega) (by omega) (by simp; omega) _ rfl ?_); intro g9 c9 w9 hown9 hgrow9 hat9 hlt9)
          go_roundw
          case rel => exact ⟨k + 1, L ++ [x], true, by omega, by go_num, rfl, Lib.hid (Own.snoc hown9 rfl rfl), Lib.hid (by rw [foldl_snoc HX.out, HF.out]; exact ovS_done c x L HE.out), (by show _ ≤ k + 1 + 1; simp; omega), Below.grown (Below.alloc (hwqd.drew) (by show _ ≤ wd.heap.size; omega) _) hgrow9 (by simp; omega) (fun g hg => by have := (HOd.out.lt g hg).1; omega)⟩
          case measure => simp [intOf] <;> omega
      | false =>
        replace hLk : L.length ≤ k := hLk
        have y0 : wr.drew.cell? ⟨g1, o1 + k * 4, none⟩ = some (.string x.name) := p0
        have y1 : wr.drew.cell? ⟨w.heap.size, 0, none⟩ = some (.string c.name) := cB 0
        have hd : Below wr.heap.size wr wr.drew := (Below.refl _ _).drew
        cases hb : leB (nmb c) (nmb x) with
        | false =>
          have hge := geq_law x.name c.name hb
          have he : nmb x ≠ nmb c := fun e => by rw [e, leB_refl] at hb; cases hb
          have hne := eq_law x.name c.name (decide_eq_false he)
          have HE := Lib.hid he
          have HB := Lib.hid hb
          clear hb he
          go_wp2_with fail
          go_region_held3 (fun w' => w'.cell? ⟨g1, o1 + k * 4, none⟩ = some (.string x.name) ∧ w'.cell? ⟨w.heap.size, 0, none⟩ = some (.string c.name)) (first | with_reducible exact ⟨y0, y1⟩ | go_keep)
            (fail)
          go_wp2_with fail
          have y2 : wr.drew.drew.cell? ⟨g1, o1 + k * 4, none⟩ = some (.string x.name) := p0
          have y3 : wr.drew.drew.cell? ⟨w.heap.size, 0, none⟩ = some (.string c.name) := cB 0
          go_region_held3 (fun w' => w'.cell? ⟨g1, o1 + k * 4, none⟩ = some (.string x.name) ∧ w'.cell? ⟨w.heap.size, 0, none⟩ = some (.string c.name)) (first | with_reducible exact ⟨y2, y3⟩ | go_keep)
            (fail)
          clear y0 y1 y2 y3
          go_wp2_with (at_builtin; go_must (refine wpList_append_lies _ rfl (.tmp 42) (.tmp 47) 23 rfl (w.heap.size + 1) 41 inf0 _ 4 40 Tryz.underlying23 hi jz0 jz1 jz2 rfl (by decide) _ (L).length _ rfl (own_below HRW.out (by (repeat' (first | with_reducible exact Below.refl _ _ | with_reducible assumption | with_reducible refine Below.drew ?_ | with_reducible refine below_drewN ?_ _ | with_reducible refine Below.setCell ?_ ?_ _ | with_reducible refine Below.alloc ?_ ?_ _ | omega | (simp; done) | (simp; omega))))) ⟨wr.heap.size, 0, none⟩ 1 1 [.string x.name, .bool x.clear, .int .i64 x.n, .int .i64 x.d] rfl rfl (World.news_of_block (cs := #[.string x.name, .bool x.clear, .int .i64 x.n, .int .i64 x.d]) (blk_new rfl)) (by simp [Value.oneCell']) (by decide) (by unfold maxLen; omega) (by omega) (by simp; omega) _ rfl ?_); intro g9 c9 w9 hown9 hgrow9 hat9 hlt9)
          go_roundw
          case rel => exact ⟨k + 1, L ++ [x], false, by omega, by go_num, rfl, Lib.hid (Own.snoc hown9 rfl rfl), Lib.hid (by rw [foldl_snoc HX.out, HF.out]; exact ovS_ahead c x L HB.out HE.out), (by show _ ≤ k + 1; simp; omega), Below.grown (Below.alloc (hwq.drew.drew) (by show _ ≤ wr.heap.size; omega) _) hgrow9 (by simp; omega) (fun g hg => by have := (HRW.out.lt g hg).1; omega)⟩
          case measure => simp [intOf] <;> omega
        | true =>
          have hge := geq_law x.name c.name hb
          have HB := Lib.hid hb
          clear hb
          go_wp2_with fail
          go_region_held3 (fun w' => w'.cell? ⟨g1, o1 + k * 4, none⟩ = some (.string x.name) ∧ w'.cell? ⟨w.heap.size, 0, none⟩ = some (.string c.name)) (first | with_reducible exact ⟨y0, y1⟩ | go_keep)
            (fail)
          go_wp2_with (at_builtin; go_must (refine wpList_append_lies _ rfl (.tmp 30) (.tmp 32) 23 rfl (w.heap.size + 1) 41 inf0 _ 4 40 Tryz.underlying23 hi jz0 jz1 jz2 rfl (by decide) _ (L).length _ rfl (own_below HRW.out (by (repeat' (first | with_reducible exact Below.refl _ _ | with_reducible assumption | with_reducible refine Below.drew ?_ | with_reducible refine below_drewN ?_ _ | with_reducible refine Below.setCell ?_ ?_ _ | with_reducible refine Below.alloc ?_ ?_ _ | omega | (simp; done) | (simp; omega))))) ⟨wr.heap.size, 0, none⟩ 1 1 [.string c.name, .bool c.clear, .int .i64 c.n, .int .i64 c.d] rfl rfl (World.news_of_block (cs := #[.string c.name, .bool c.clear, .int .i64 c.n, .int .i64 c.d]) (blk_new rfl)) (by simp [Value.oneCell']) (by decide) (by unfold maxLen; omega) (by omega) (by simp; omega) _ rfl ?_); intro g8 c8 w8 hown8 hgrow8 hat8 hlt8)
          have hb8 : Below (w.heap.size + 1) wr w8 := Below.grown (Below.alloc (hd.mono (by omega)) (by show _ ≤ wr.heap.size; omega) _) hgrow8 (by simp; omega) (fun g hg => by have := (HRW.out.lt g hg).1; omega)
          have HO8 := Lib.hid hown8
          have hg1' : g1 < w.heap.size + 1 := by omega
          have q0 := (hb8.cell hg1').trans p0
          have q1 := (hb8.cell hg1').trans p1
          have q2 := (hb8.cell hg1').trans p2
          have q3 := (hb8.cell hg1').trans p3
          have BR8 : Hid (w8.heap[w.heap.size]? = some (.cells #[.string c.name, .bool c.clear, .int .i64 c.n, .int .i64 c.d] 41 (0, 0))) := Lib.hid ((hb8.block _ (by omega)).trans BR.out)
          have z8 := hb8.size
          clear p0 p1 p2 p3 y0 y1 cB hown8 hgrow8 hat8
          have c8b := cellH BR8
          have y2 : w8.drew.cell? ⟨g1, o1 + k * 4, none⟩ = some (.string x.name) := q0
          have y3 : w8.drew.cell? ⟨w.heap.size, 0, none⟩ = some (.string c.name) := c8b 0
          cases he : decide (x.name.data.toList = c.name.data.toList) with
          | true =>
            have hne := eq_law x.name c.name he
            have HE := Lib.hid (of_decide_eq_true he)
            clear he
            go_region_held3 (fun w' => w'.cell? ⟨g1, o1 + k * 4, none⟩ = some (.string x.name) ∧ w'.cell? ⟨w.heap.size, 0, none⟩ = some (.string c.name)) (first | with_reducible exact ⟨y2, y3⟩ | go_keep)
              (fail)
            go_wp2_with fail
            go_roundw
            case rel => exact ⟨k + 1, L ++ [c], true, by omega, by go_num, rfl, Lib.hid (own_below (Own.snoc HO8.out rfl rfl) (by (repeat' (first | with_reducible exact Below.refl _ _ | with_reducible assumption | with_reducible refine Below.drew ?_ | with_reducible refine below_drewN ?_ _ | with_reducible refine Below.setCell ?_ ?_ _ | with_reducible refine Below.alloc ?_ ?_ _ | omega | (simp; done) | (simp; omega))))), Lib.hid (by rw [foldl_snoc HX.out, HF.out, ovS_here c x L HB.out]; exact if_pos HE.out), (by show _ ≤ k + 1 + 1; simp; omega), (hwq.trans hb8).drew⟩
            case measure => simp [intOf] <;> omega
          | false =>
            have hne := eq_law x.name c.name he
            have HE := Lib.hid (of_decide_eq_false he)
            clear he
            go_region_held3 (fun w' => w'.cell? ⟨g1, o1 + k * 4, none⟩ = some (.string x.name) ∧ w'.cell? ⟨w.heap.size, 0, none⟩ = some (.string c.name)) (first | with_reducible exact ⟨y2, y3⟩ | go_keep)
              (fail)
            clear y2 y3
            have q0' := cell_at q0 (Below.refl w8.heap.size w8).drew
            go_wp2_with (at_builtin; go_must (refine wpList_append_lies _ rfl (.tmp 42) (.tmp 47) 23 rfl (w.heap.size + 1) 41 inf0 _ 4 40 Tryz.underlying23 hi jz0 jz1 jz2 rfl (by decide) _ (L.length + 1) _ rfl (own_below HO8.out (by (repeat' (first | with_reducible exact Below.refl _ _ | with_reducible assumption | with_reducible refine Below.drew ?_ | with_reducible refine below_drewN ?_ _ | with_reducible refine Below.setCell ?_ ?_ _ | with_reducible refine Below.alloc ?_ ?_ _ | omega | (simp; done) | (simp; omega))))) ⟨w8.heap.size, 0, none⟩ 1 1 [.string x.name, .bool x.clear, .int .i64 x.n, .int .i64 x.d] rfl rfl (World.news_of_block (cs := #[.string x.name, .bool x.clear, .int .i64 x.n, .int .i64 x.d]) (blk_new rfl)) (by simp [Value.oneCell']) (by decide) (by unfold maxLen; omega) (by omega) (by simp; omega) _ rfl ?_); intro g9 c9 w9 hown9 hgrow9 hat9 hlt9)
            go_roundw
            case rel => exact ⟨k + 1, L ++ [c] ++ [x], true, by omega, by go_num, rfl, Lib.hid (Own.snoc hown9 (by simp) (by simp [chL])), Lib.hid (by rw [foldl_snoc HX.out, HF.out, ovS_here c x L HB.out]; exact if_neg HE.out), (by show _ ≤ k + 1 + 1; simp; omega), Below.grown (Below.alloc (hwq.trans hb8).drew (by show _ ≤ w8.heap.size; omega) _) hgrow9 (by simp; omega) (fun g hg => by have := (HO8.out.lt g hg).1; omega)⟩
            case measure => simp [intOf] <;> omega
    · obtain rfl : k = l.length := by omega
      have hlt2 : ¬ (l.length : Int) < (l.length : Int) := by omega
      have HFE : Hid (l.foldl (ovS c) ([], false) = (L, b)) := Lib.hid (by have := HF.out; rwa [List.take_length] at this)
      have HRW := Lib.hid HROW.out
      replace hLk : L.length ≤ l.length + 1 := Nat.le_trans hLk (by cases b <;> simp)
      clear HF HROW
      cases b with
      | true =>
        go_wp2_with fail
        go_ret
        exact ⟨⟨_, rfl, by rw [show overC l c = L by unfold overC; rw [HFE.out]; rfl]; exact own_mono HRW.out (by omega)⟩, hwr⟩
      | false =>
        go_wp2_with (at_builtin; go_must (refine wpList_append_lies _ rfl (.tmp 51) (.tmp 53) 23 rfl (w.heap.size + 1) 41 inf0 _ 4 40 Tryz.underlying23 hi jz0 jz1 jz2 rfl (by decide) _ (L).length _ rfl (own_below HRW.out (by (repeat' (first | with_reducible exact Below.refl _ _ | with_reducible assumption | with_reducible refine Below.drew ?_ | with_reducible refine below_drewN ?_ _ | with_reducible refine Below.setCell ?_ ?_ _ | with_reducible refine Below.alloc ?_ ?_ _ | omega | (simp; done) | (simp; omega))))) ⟨wr.heap.size, 0, none⟩ 1 1 [.string c.name, .bool c.clear, .int .i64 c.n, .int .i64 c.d] rfl rfl (World.news_of_block (cs := #[.string c.name, .bool c.clear, .int .i64 c.n, .int .i64 c.d]) (blk_new rfl)) (by simp [Value.oneCell']) (by decide) (by unfold maxLen; omega) (by omega) (by simp; omega) _ rfl ?_); intro g9 c9 w9 hown9 hgrow9 hat9 hlt9)
        go_ret
        exact ⟨⟨_, rfl, by rw [show overC l c = L ++ [c] by unfold overC; rw [HFE.out]; rfl]; exact own_mono (Own.snoc hown9 rfl rfl) (by omega)⟩, hb1.trans ((Below.grown (Below.alloc hwq (by omega) _) hgrow9 (by simp; omega) (fun g hg => by have := (HRW.out.lt g hg).1; omega)).mono (by omega))⟩
end

section
open Go.RowKit Go.Maps

/-- an input set -/
def setS (f : St) (x : It) : St := fun y => if y = itb x then some (x.n, x.d) else f y
/-- the loop's step -/
def ovI (c : It) (p : List It × Bool) (x : It) : List It × Bool :=
  let q := if p.2 = false ∧ leB (itb c) (itb x) = true then (p.1 ++ [c], true) else p
  if itb x = itb c then q else (q.1 ++ [x], q.2)
def putI (l : List It) (c : It) : List It := if (l.foldl (ovI c) ([], false)).2 = true then (l.foldl (ovI c) ([], false)).1 else (l.foldl (ovI c) ([], false)).1 ++ [c]
def loI (c : It) (p : List It) : List It := p.filter (fun x => !leB (itb c) (itb x))
def hiI (c : It) (p : List It) : List It := p.filter (fun x => leB (itb c) (itb x) && !decide (itb x = itb c))
def sttI (c : It) (p : List It) : List It × Bool := if p.any (fun x => leB (itb c) (itb x)) = true then (loI c p ++ c :: hiI c p, true) else (loI c p, false)
theorem hiI_nil {c : It} {p : List It} (h : ¬ p.any (fun x => leB (itb c) (itb x)) = true) : hiI c p = [] := by
  unfold hiI
  rw [List.filter_eq_nil_iff]
  intro x hx q
  rw [Bool.and_eq_true] at q
  exact h (List.any_eq_true.2 ⟨x, hx, q.1⟩)
theorem sttI_pos {c : It} {p : List It} (h : p.any (fun x => leB (itb c) (itb x)) = true) : sttI c p = (loI c p ++ c :: hiI c p, true) := if_pos h
theorem sttI_neg {c : It} {p : List It} (h : ¬ p.any (fun x => leB (itb c) (itb x)) = true) : sttI c p = (loI c p, false) := if_neg h
theorem ovI_done (c x : It) (a : List It) (he : itb x ≠ itb c) : ovI c (a, true) x = (a ++ [x], true) := by
  unfold ovI
  have e : (if true = false ∧ leB (itb c) (itb x) = true then (a ++ [c], true) else (a, true)) = (a, true) := if_neg (fun q => by cases q.1)
  dsimp only
  rw [e, if_neg he]
theorem ovI_here (c x : It) (a : List It) (hx : leB (itb c) (itb x) = true) : ovI c (a, false) x = if itb x = itb c then (a ++ [c], true) else (a ++ [c] ++ [x], true) := by
  unfold ovI
  have e : (if false = false ∧ leB (itb c) (itb x) = true then (a ++ [c], true) else (a, false)) = (a ++ [c], true) := if_pos ⟨rfl, hx⟩
  dsimp only
  rw [e]
theorem ovI_ahead (c x : It) (a : List It) (hx : leB (itb c) (itb x) = false) (he : itb x ≠ itb c) : ovI c (a, false) x = (a ++ [x], false) := by
  unfold ovI
  have e : (if false = false ∧ leB (itb c) (itb x) = true then (a ++ [c], true) else (a, false)) = (a, false) := if_neg (fun q => by rw [hx] at q; cases q.2)
  dsimp only
  rw [e, if_neg he]
theorem loI_snoc (c x : It) (p : List It) : loI c (p ++ [x]) = loI c p ++ (if leB (itb c) (itb x) = true then [] else [x]) := by
  unfold loI
  rw [List.filter_append, List.filter_cons, List.filter_nil]
  cases leB (itb c) (itb x) <;> rfl
theorem hiI_snoc (c x : It) (p : List It) : hiI c (p ++ [x]) = hiI c p ++ (if leB (itb c) (itb x) = true ∧ itb x ≠ itb c then [x] else []) := by
  unfold hiI
  rw [List.filter_append, List.filter_cons, List.filter_nil]
  congr 1
  cases hx : leB (itb c) (itb x) with
  | false => simp
  | true =>
    by_cases e : itb x = itb c
    · rw [if_neg (by rw [decide_eq_true e]; simp), if_neg (fun q => q.2 e)]
    · rw [if_pos (by rw [decide_eq_false e]; rfl), if_pos ⟨rfl, e⟩]
theorem any_snocI (c x : It) (p : List It) : (p ++ [x]).any (fun x => leB (itb c) (itb x)) = (p.any (fun x => leB (itb c) (itb x)) || leB (itb c) (itb x)) := by
  rw [List.any_append]
  simp only [List.any_cons, List.any_nil, Bool.or_false]
theorem ovI_step {c x : It} {p : List It} (h : ∀ y ∈ p, leB (itb y) (itb x) = true ∧ itb y ≠ itb x) : ovI c (sttI c p) x = sttI c (p ++ [x]) := by
  by_cases ha : p.any (fun x => leB (itb c) (itb x)) = true
  · obtain ⟨y, hy, hcy⟩ := List.any_eq_true.1 ha
    obtain ⟨h1, h2⟩ := h y hy
    have hx := leB_trans _ _ _ hcy h1
    have he : itb x ≠ itb c := fun e => h2 (leB_anti h1 (by rw [e]; exact hcy))
    rw [sttI_pos ha, sttI_pos (p := p ++ [x]) (by rw [any_snocI, ha]; rfl), ovI_done c x _ he, loI_snoc, hiI_snoc, if_pos hx, if_pos ⟨hx, he⟩, List.append_nil, List.append_assoc]
    rfl
  · have hn := hiI_nil ha
    cases hx : leB (itb c) (itb x) with
    | true =>
      rw [sttI_neg ha, sttI_pos (p := p ++ [x]) (by rw [any_snocI, hx, Bool.or_true]), ovI_here c x _ hx, loI_snoc, hiI_snoc, hn, if_pos hx, List.append_nil]
      by_cases e : itb x = itb c
      · rw [if_pos e, if_neg (fun q => q.2 e)]; rfl
      · rw [if_neg e, if_pos ⟨hx, e⟩, List.append_assoc]; rfl
    | false =>
      have e : itb x ≠ itb c := fun e => by rw [e, leB_refl] at hx; cases hx
      have ha2 : ¬ (p ++ [x]).any (fun x => leB (itb c) (itb x)) = true := by
        rw [any_snocI, hx, Bool.or_false]; exact ha
      rw [sttI_neg ha, sttI_neg ha2, ovI_ahead c x _ hx e, loI_snoc, if_neg (by rw [hx]; simp)]
theorem ov_foldI {c : It} : ∀ (r p : List It), (p ++ r).Pairwise (fun a b => leB (itb a) (itb b) = true ∧ itb a ≠ itb b) → r.foldl (ovI c) (sttI c p) = sttI c (p ++ r)
  | [], p, _ => by simp
  | x :: r, p, h => by
    have h1 : ∀ y ∈ p, leB (itb y) (itb x) = true ∧ itb y ≠ itb x := fun y hy => (List.pairwise_append.1 h).2.2 y hy x (List.mem_cons_self ..)
    rw [List.foldl_cons, ovI_step h1, ov_foldI r (p ++ [x]) (by rw [List.append_assoc]; exact h), List.append_assoc]
    rfl
theorem canonI_pairs {f : St} {l : List It} (h : CanonI f l) : l.Pairwise (fun a b => leB (itb a) (itb b) = true ∧ itb a ≠ itb b) := by
  have h1 := List.pairwise_map.1 h.keys.sorted
  have h2 := List.pairwise_map.1 h.keys.nodup
  exact h1.and h2
theorem putI_eq {f : St} {l : List It} {c : It} (h : CanonI f l) : putI l c = loI c l ++ c :: hiI c l := by
  have := ov_foldI (c := c) l [] (by simpa using canonI_pairs h)
  rw [List.nil_append, show sttI c [] = ([], false) from rfl] at this
  unfold putI
  rw [this]
  unfold sttI
  by_cases ha : l.any (fun x => leB (itb c) (itb x)) = true
  · simp [ha]
  · simp [ha, hiI_nil ha]
theorem put_canon {f : St} {l : List It} {c : It} (h : CanonI f l) : CanonI (setS f c) (putI l c) := by
  rw [putI_eq h]
  have hlo : ∀ x ∈ loI c l, x ∈ l ∧ leB (itb c) (itb x) = false := fun x hx => by
    obtain ⟨h1, h2⟩ := List.mem_filter.1 hx
    exact ⟨h1, by simpa using h2⟩
  have hhi : ∀ x ∈ hiI c l, x ∈ l ∧ leB (itb c) (itb x) = true ∧ itb x ≠ itb c := fun x hx => by
    obtain ⟨h1, h2⟩ := List.mem_filter.1 hx
    rw [Bool.and_eq_true] at h2
    exact ⟨h1, h2.1, by simpa using h2.2⟩
  have hne : ∀ x ∈ loI c l, itb x ≠ itb c := fun x hx e => by have := (hlo x hx).2; rw [e, leB_refl] at this; cases this
  have hle : ∀ x ∈ loI c l, leB (itb x) (itb c) = true := fun x hx => by
    have := leB_total (itb c) (itb x)
    rw [(hlo x hx).2] at this
    simpa using this
  have hp : (loI c l ++ c :: hiI c l).Pairwise (fun a b => leB (itb a) (itb b) = true ∧ itb a ≠ itb b) := by
    have q := canonI_pairs h
    refine List.pairwise_append.2 ⟨q.sublist List.filter_sublist, List.pairwise_cons.2 ⟨fun y hy => ⟨(hhi y hy).2.1, fun e => (hhi y hy).2.2 e.symm⟩, q.sublist List.filter_sublist⟩, fun a ha b hb => ?_⟩
    rcases List.mem_cons.1 hb with rfl | hb
    · exact ⟨hle a ha, hne a ha⟩
    · refine ⟨leB_trans _ _ _ (hle a ha) (hhi b hb).2.1, fun e => ?_⟩
      have := (hlo a ha).2
      rw [e, (hhi b hb).2.1] at this
      cases this
  refine ⟨⟨List.pairwise_map.2 (hp.imp fun q => q.1), List.pairwise_map.2 (hp.imp fun q => q.2), fun y => ?_⟩, fun x hx => ?_⟩
  · unfold setS
    rw [List.map_append, List.map_cons, List.mem_append, List.mem_cons]
    by_cases e : y = itb c
    · rw [if_pos e]; simp [e]
    · rw [if_neg e, ← h.keys.mem]
      constructor
      · rintro (q | q | q)
        · obtain ⟨x, hx, rfl⟩ := List.mem_map.1 q
          exact List.mem_map_of_mem (hlo x hx).1
        · exact absurd q e
        · obtain ⟨x, hx, rfl⟩ := List.mem_map.1 q
          exact List.mem_map_of_mem (hhi x hx).1
      · intro q
        obtain ⟨x, hx, rfl⟩ := List.mem_map.1 q
        cases hq : leB (itb c) (itb x) with
        | false => exact .inl (List.mem_map_of_mem (List.mem_filter.2 ⟨hx, by simp [hq]⟩))
        | true => exact .inr (.inr (List.mem_map_of_mem (List.mem_filter.2 ⟨hx, by simp [hq, e]⟩)))
  · unfold setS
    rcases List.mem_append.1 hx with q | q
    · rw [if_neg (hne x q)]; exact h.at' x (hlo x q).1
    · rcases List.mem_cons.1 q with rfl | q
      · rw [if_pos rfl]
      · rw [if_neg (hhi x q).2.2]; exact h.at' x (hhi x q).1
/-- inputs without a name -/
theorem without_canon {s : St} {l : List It} {nm : List UInt8} (h : CanonI s l) : CanonI (fun y => if y = nm then none else s y) (l.filter (fun x => !decide (itb x = nm))) := by
  have hm : (l.filter (fun x => !decide (itb x = nm))).Sublist l := List.filter_sublist
  refine ⟨⟨h.keys.sorted.sublist (hm.map itb), h.keys.nodup.sublist (hm.map itb), fun y => ?_⟩, fun x hx => ?_⟩
  · by_cases e : y = nm
    · rw [if_pos e, List.mem_map]
      constructor
      · rintro ⟨x, hx, rfl⟩
        have := (List.mem_filter.1 hx).2
        simp [e] at this
      · intro q; simp at q
    · rw [if_neg e, ← h.keys.mem, List.mem_map, List.mem_map]
      constructor
      · rintro ⟨x, hx, rfl⟩; exact ⟨x, (List.mem_filter.1 hx).1, rfl⟩
      · rintro ⟨x, hx, rfl⟩; exact ⟨x, List.mem_filter.2 ⟨hx, by simp [e]⟩, rfl⟩
  · obtain ⟨h1, h2⟩ := List.mem_filter.1 hx
    have h2 : itb x ≠ nm := by simpa using h2
    show (if itb x = nm then none else s (itb x)) = _
    rw [if_neg h2]
    exact h.at' x h1
end

section
open Go.RowKit Go.Maps

set_option maxRecDepth 100000 in
set_option maxHeartbeats 8000000 in
theorem putI_any (l : List It) (c : It) (A : Option Addr) (cp : Nat) (w : World) (hl : RowAt itL 3 w w.heap.size A l) (hN : l.length ≤ 1000) :
    Calls Tryz.prog 52 #[.slice A l.length cp, itV c] w fun e w' => (∃ v, e = .returned v ∧ Own itL 3 53 w.heap.size w' v (putI l c)) ∧ Below w.heap.size w w' := by
  obtain ⟨inf0, hi, jz0, jz1, jz2⟩ := info_parts infoIt
  obtain ⟨MC, hMC, hmk⟩ : ∃ MC : Array Value, MC.size = (l.length + 1) * 3 ∧ ∀ w : World, (Instr.makeSlice 22 (.int .i64 0) (.int .i64 ((l.length : Int) + 1))).run Tryz.prog w = .ok (.slice (some ⟨w.heap.size, 0, none⟩) 0 (l.length + 1)) (w.alloc (.cells MC 53)) := by
    refine ⟨madeCells (Value.agg #[.string ⟨#[]⟩, .int .i64 0, .int .i64 0]).cells ((l.length + 1) * inf0.size), by rw [size_madeCells, jz1], fun w => ?_⟩
    have h := run_make (P := Tryz.prog) (w := w) 22 53 inf0 _ Tryz.underlying22 hi jz0 .i64 .i64 0 ((l.length : Int) + 1) (Int.le_refl _) (by omega) (by rw [jz2]; omega) (by omega)
    rw [show ((l.length : Int) + 1).toNat = l.length + 1 by omega] at h
    simpa using h
  have HL := Lib.hid hl
  clear hl
  unfold itV
  go_enter Tryz.func52, Tryz.ntmps52
  go_wp2_with fail
  obtain ⟨w1, hw1e⟩ : ∃ q, (w.alloc (.cells #[.string c.name, .int .i64 c.n, .int .i64 c.d] 53)).alloc (.cells MC 53) = q := ⟨_, rfl⟩
  have hb1 : Below w.heap.size w w1 := by rw [← hw1e]; (repeat' (first | with_reducible exact Below.refl _ _ | with_reducible assumption | with_reducible refine Below.drew ?_ | with_reducible refine below_drewN ?_ _ | with_reducible refine Below.setCell ?_ ?_ _ | with_reducible refine Below.alloc ?_ ?_ _ | omega | (simp; done) | (simp; omega)))
  have BX : Hid (w1.heap[w.heap.size]? = some (.cells #[.string c.name, .int .i64 c.n, .int .i64 c.d] 53 (0, 0))) := Lib.hid (by rw [← hw1e]; exact blk_old (blk_new rfl))
  have HO1 : Hid (Own itL 3 53 (w.heap.size + 1) w1 (.slice (some ⟨w.heap.size + 1, 0, none⟩) 0 (l.length + 1)) []) := Lib.hid (by rw [← hw1e]; exact made_own (by simp) (Nat.le_refl _) (by unfold maxLen; omega) hMC)
  have hz1 : w1.heap.size = w.heap.size + 2 := by rw [← hw1e]; simp
  rw [hw1e]
  clear hw1e hmk hMC
  go_loopw [5, 6, 7] (fun u d i wr => ∃ (k : Nat) (L : List It) (b : Bool), k ≤ l.length ∧ i = .int .i64 k ∧ d = .bool b ∧ Hid (Own itL 3 53 (w.heap.size + 1) wr u L) ∧ Hid ((l.take k).foldl (ovI c) ([], false) = (L, b)) ∧ L.length ≤ k + b.toNat ∧ Below (w.heap.size + 1) w1 wr) (fun _ _ i _ => l.length - (intOf i).toNat)
  case atStart => exact ⟨0, [], false, Nat.zero_le _, rfl, rfl, HO1, Lib.hid rfl, by simp, Below.refl _ _⟩
  case round =>
    clear HO1
    obtain ⟨k, L, b, hk, rfl, rfl, HROW, HF, hLk, hwq⟩ := hrel
    have zq := hwq.size
    have hwr : Below w.heap.size w wr := hb1.trans (hwq.mono (by omega))
    have BR : Hid (wr.heap[w.heap.size]? = some (.cells #[.string c.name, .int .i64 c.n, .int .i64 c.d] 53 (0, 0))) := Lib.hid ((hwq.block _ (by omega)).trans BX.out)
    have cB := cellH BR
    by_cases hlt : k < l.length
    · obtain ⟨x, hx⟩ : ∃ x, l[k]? = some x := ⟨l[k], List.getElem?_eq_getElem hlt⟩
      obtain ⟨g1, o1, rfl, hg1, p0, p1, p2⟩ := cellsI (HL.out.below hwr (Nat.le_refl _)) hx
      have HX := Lib.hid hx
      have HRW := Lib.hid HROW.out
      have hlt2 : (k : Int) < (l.length : Int) := by omega
      clear hx
      cases b with
      | true =>
        replace hLk : L.length ≤ k + 1 := hLk
        go_wp2_with fail
        go_quiet (fail)
        obtain ⟨wd, hwd⟩ : ∃ q, wr.drewN nq = q := ⟨_, rfl⟩
        have hd : Below wr.heap.size wr wd := by rw [← hwd]; (repeat' (first | with_reducible exact Below.refl _ _ | with_reducible assumption | with_reducible refine Below.drew ?_ | with_reducible refine below_drewN ?_ _ | with_reducible refine Below.setCell ?_ ?_ _ | with_reducible refine Below.alloc ?_ ?_ _ | omega | (simp; done) | (simp; omega)))
        rw [hwd]
        have BD := keepH hd BR.out
        have t0 := cell_at p0 hd
        have t1 := cell_at p1 hd
        have t2 := cell_at p2 hd
        have HOd := Lib.hid (own_below HRW.out hd)
        have hwqd := hwq.trans (hd.mono (by omega))
        have zd := hwqd.size
        clear hwd p0 p1 p2 cB
        have cD := cellH BD
        cases he : decide (x.name.data.toList = c.name.data.toList) with
        | true =>
          have hne := eq_law x.name c.name he
          have HE := Lib.hid (of_decide_eq_true he)
          clear he
          go_wp2_with fail
          have y0 : wd.drew.cell? ⟨g1, o1 + k * 3, none⟩ = some (.string x.name) := t0
          have y1 : wd.drew.cell? ⟨w.heap.size, 0, none⟩ = some (.string c.name) := cD 0
          go_region_held3 (fun w' => w'.cell? ⟨g1, o1 + k * 3, none⟩ = some (.string x.name) ∧ w'.cell? ⟨w.heap.size, 0, none⟩ = some (.string c.name)) (first | with_reducible exact ⟨y0, y1⟩ | go_keep)
            (fail)
          go_wp2_with fail
          go_roundw
          case rel => exact ⟨k + 1, L, true, by omega, by go_num, rfl, Lib.hid (own_below HOd.out (by (repeat' (first | with_reducible exact Below.refl _ _ | with_reducible assumption | with_reducible refine Below.drew ?_ | with_reducible refine below_drewN ?_ _ | with_reducible refine Below.setCell ?_ ?_ _ | with_reducible refine Below.alloc ?_ ?_ _ | omega | (simp; done) | (simp; omega))))), Lib.hid (by rw [foldl_snoc HX.out, HF.out]; unfold ovI; exact if_pos HE.out), (by show _ ≤ k + 1 + 1; omega), by (repeat' (first | with_reducible exact Below.refl _ _ | with_reducible assumption | with_reducible refine Below.drew ?_ | with_reducible refine below_drewN ?_ _ | with_reducible refine Below.setCell ?_ ?_ _ | with_reducible refine Below.alloc ?_ ?_ _ | omega | (simp; done) | (simp; omega)))⟩
          case measure => simp [intOf] <;> omega
        | false =>
          have hne := eq_law x.name c.name he
          have HE := Lib.hid (of_decide_eq_false he)
          clear he
          go_wp2_with fail
          have y0 : wd.drew.cell? ⟨g1, o1 + k * 3, none⟩ = some (.string x.name) := t0
          have y1 : wd.drew.cell? ⟨w.heap.size, 0, none⟩ = some (.string c.name) := cD 0
          go_region_held3 (fun w' => w'.cell? ⟨g1, o1 + k * 3, none⟩ = some (.string x.name) ∧ w'.cell? ⟨w.heap.size, 0, none⟩ = some (.string c.name)) (first | with_reducible exact ⟨y0, y1⟩ | go_keep)
            (fail)
          have t0' := cell_at t0 (Below.refl wd.heap.size wd).drew
          go_wp2_with (at_builtin; go_must (refine wpList_append_lies _ rfl (.tmp 42) (.tmp 47) 22 rfl (w.heap.size + 1) 53 inf0 _ 3 32 Tryz.underlying22 hi jz0 jz1 jz2 rfl (by decide) _ L.length _ rfl (own_below HOd.out (by (repeat' (first | with_reducible exact Below.refl _ _ | with_reducible assumption | with_reducible refine Below.drew ?_ | with_reducible refine below_drewN ?_ _ | with_reducible refine Below.setCell ?_ ?_ _ | with_reducible refine Below.alloc ?_ ?_ _ | omega | (simp; done) | (simp; omega))))) ⟨wd.heap.size, 0, none⟩ 1 1 [.string x.name, .int .i64 x.n, .int .i64 x.d] rfl rfl (World.news_of_block (cs := #[.string x.name, .int .i64 x.n, .int .i64 x.d]) (blk_new rfl)) (by simp [Value.oneCell']) (by decide) (by unfold maxLen; omega) (by omega) (by simp; omega) _ rfl ?_); intro g9 c9 w9 hown9 hgrow9 hat9 hlt9)
          go_roundw
          case rel => exact ⟨k + 1, L ++ [x], true, by omega, by go_num, rfl, Lib.hid (Own.snoc hown9 rfl rfl), Lib.hid (by rw [foldl_snoc HX.out, HF.out]; exact ovI_done c x L HE.out), (by show _ ≤ k + 1 + 1; simp; omega), Below.grown (Below.alloc (hwqd.drew) (by show _ ≤ wd.heap.size; omega) _) hgrow9 (by simp; omega) (fun g hg => by have := (HOd.out.lt g hg).1; omega)⟩
          case measure => simp [intOf] <;> omega
      | false =>
        replace hLk : L.length ≤ k := hLk
        have y0 : wr.drew.cell? ⟨g1, o1 + k * 3, none⟩ = some (.string x.name) := p0
        have y1 : wr.drew.cell? ⟨w.heap.size, 0, none⟩ = some (.string c.name) := cB 0
        have hd : Below wr.heap.size wr wr.drew := (Below.refl _ _).drew
        cases hb : leB (itb c) (itb x) with
        | false =>
          have hge := geq_law x.name c.name hb
          have he : itb x ≠ itb c := fun e => by rw [e, leB_refl] at hb; cases hb
          have hne := eq_law x.name c.name (decide_eq_false he)
          have HE := Lib.hid he
          have HB := Lib.hid hb
          clear hb he
          go_wp2_with fail
          go_region_held3 (fun w' => w'.cell? ⟨g1, o1 + k * 3, none⟩ = some (.string x.name) ∧ w'.cell? ⟨w.heap.size, 0, none⟩ = some (.string c.name)) (first | with_reducible exact ⟨y0, y1⟩ | go_keep)
            (fail)
          go_wp2_with fail
          have y2 : wr.drew.drew.cell? ⟨g1, o1 + k * 3, none⟩ = some (.string x.name) := p0
          have y3 : wr.drew.drew.cell? ⟨w.heap.size, 0, none⟩ = some (.string c.name) := cB 0
          go_region_held3 (fun w' => w'.cell? ⟨g1, o1 + k * 3, none⟩ = some (.string x.name) ∧ w'.cell? ⟨w.heap.size, 0, none⟩ = some (.string c.name)) (first | with_reducible exact ⟨y2, y3⟩ | go_keep)
            (fail)
          clear y0 y1 y2 y3
          go_wp2_with (at_builtin; go_must (refine wpList_append_lies _ rfl (.tmp 42) (.tmp 47) 22 rfl (w.heap.size + 1) 53 inf0 _ 3 32 Tryz.underlying22 hi jz0 jz1 jz2 rfl (by decide) _ (L).length _ rfl (own_below HRW.out (by (repeat' (first | with_reducible exact Below.refl _ _ | with_reducible assumption | with_reducible refine Below.drew ?_ | with_reducible refine below_drewN ?_ _ | with_reducible refine Below.setCell ?_ ?_ _ | with_reducible refine Below.alloc ?_ ?_ _ | omega | (simp; done) | (simp; omega))))) ⟨wr.heap.size, 0, none⟩ 1 1 [.string x.name, .int .i64 x.n, .int .i64 x.d] rfl rfl (World.news_of_block (cs := #[.string x.name, .int .i64 x.n, .int .i64 x.d]) (blk_new rfl)) (by simp [Value.oneCell']) (by decide) (by unfold maxLen; omega) (by omega) (by simp; omega) _ rfl ?_); intro g9 c9 w9 hown9 hgrow9 hat9 hlt9)
          go_roundw
          case rel => exact ⟨k + 1, L ++ [x], false, by omega, by go_num, rfl, Lib.hid (Own.snoc hown9 rfl rfl), Lib.hid (by rw [foldl_snoc HX.out, HF.out]; exact ovI_ahead c x L HB.out HE.out), (by show _ ≤ k + 1; simp; omega), Below.grown (Below.alloc (hwq.drew.drew) (by show _ ≤ wr.heap.size; omega) _) hgrow9 (by simp; omega) (fun g hg => by have := (HRW.out.lt g hg).1; omega)⟩
          case measure => simp [intOf] <;> omega
        | true =>
          have hge := geq_law x.name c.name hb
          have HB := Lib.hid hb
          clear hb
          go_wp2_with fail
          go_region_held3 (fun w' => w'.cell? ⟨g1, o1 + k * 3, none⟩ = some (.string x.name) ∧ w'.cell? ⟨w.heap.size, 0, none⟩ = some (.string c.name)) (first | with_reducible exact ⟨y0, y1⟩ | go_keep)
            (fail)
          go_wp2_with (at_builtin; go_must (refine wpList_append_lies _ rfl (.tmp 30) (.tmp 32) 22 rfl (w.heap.size + 1) 53 inf0 _ 3 32 Tryz.underlying22 hi jz0 jz1 jz2 rfl (by decide) _ (L).length _ rfl (own_below HRW.out (by (repeat' (first | with_reducible exact Below.refl _ _ | with_reducible assumption | with_reducible refine Below.drew ?_ | with_reducible refine below_drewN ?_ _ | with_reducible refine Below.setCell ?_ ?_ _ | with_reducible refine Below.alloc ?_ ?_ _ | omega | (simp; done) | (simp; omega))))) ⟨wr.heap.size, 0, none⟩ 1 1 [.string c.name, .int .i64 c.n, .int .i64 c.d] rfl rfl (World.news_of_block (cs := #[.string c.name, .int .i64 c.n, .int .i64 c.d]) (blk_new rfl)) (by simp [Value.oneCell']) (by decide) (by unfold maxLen; omega) (by omega) (by simp; omega) _ rfl ?_); intro g8 c8 w8 hown8 hgrow8 hat8 hlt8)
          have hb8 : Below (w.heap.size + 1) wr w8 := Below.grown (Below.alloc (hd.mono (by omega)) (by show _ ≤ wr.heap.size; omega) _) hgrow8 (by simp; omega) (fun g hg => by have := (HRW.out.lt g hg).1; omega)
          have HO8 := Lib.hid hown8
          have hg1' : g1 < w.heap.size + 1 := by omega
          have q0 := (hb8.cell hg1').trans p0
          have q1 := (hb8.cell hg1').trans p1
          have q2 := (hb8.cell hg1').trans p2
          have BR8 : Hid (w8.heap[w.heap.size]? = some (.cells #[.string c.name, .int .i64 c.n, .int .i64 c.d] 53 (0, 0))) := Lib.hid ((hb8.block _ (by omega)).trans BR.out)
          have z8 := hb8.size
          clear p0 p1 p2 y0 y1 cB hown8 hgrow8 hat8
          have c8b := cellH BR8
          have y2 : w8.drew.cell? ⟨g1, o1 + k * 3, none⟩ = some (.string x.name) := q0
          have y3 : w8.drew.cell? ⟨w.heap.size, 0, none⟩ = some (.string c.name) := c8b 0
          cases he : decide (x.name.data.toList = c.name.data.toList) with
          | true =>
            have hne := eq_law x.name c.name he
            have HE := Lib.hid (of_decide_eq_true he)
            clear he
            go_region_held3 (fun w' => w'.cell? ⟨g1, o1 + k * 3, none⟩ = some (.string x.name) ∧ w'.cell? ⟨w.heap.size, 0, none⟩ = some (.string c.name)) (first | with_reducible exact ⟨y2, y3⟩ | go_keep)
              (fail)
            go_wp2_with fail
            go_roundw
            case rel => exact ⟨k + 1, L ++ [c], true, by omega, by go_num, rfl, Lib.hid (own_below (Own.snoc HO8.out rfl rfl) (by (repeat' (first | with_reducible exact Below.refl _ _ | with_reducible assumption | with_reducible refine Below.drew ?_ | with_reducible refine below_drewN ?_ _ | with_reducible refine Below.setCell ?_ ?_ _ | with_reducible refine Below.alloc ?_ ?_ _ | omega | (simp; done) | (simp; omega))))), Lib.hid (by rw [foldl_snoc HX.out, HF.out, ovI_here c x L HB.out]; exact if_pos HE.out), (by show _ ≤ k + 1 + 1; simp; omega), (hwq.trans hb8).drew⟩
            case measure => simp [intOf] <;> omega
          | false =>
            have hne := eq_law x.name c.name he
            have HE := Lib.hid (of_decide_eq_false he)
            clear he
            go_region_held3 (fun w' => w'.cell? ⟨g1, o1 + k * 3, none⟩ = some (.string x.name) ∧ w'.cell? ⟨w.heap.size, 0, none⟩ = some (.string c.name)) (first | with_reducible exact ⟨y2, y3⟩ | go_keep)
              (fail)
            clear y2 y3
            have q0' := cell_at q0 (Below.refl w8.heap.size w8).drew
            go_wp2_with (at_builtin; go_must (refine wpList_append_lies _ rfl (.tmp 42) (.tmp 47) 22 rfl (w.heap.size + 1) 53 inf0 _ 3 32 Tryz.underlying22 hi jz0 jz1 jz2 rfl (by decide) _ (L.length + 1) _ rfl (own_below HO8.out (by (repeat' (first | with_reducible exact Below.refl _ _ | with_reducible assumption | with_reducible refine Below.drew ?_ | with_reducible refine below_drewN ?_ _ | with_reducible refine Below.setCell ?_ ?_ _ | with_reducible refine Below.alloc ?_ ?_ _ | omega | (simp; done) | (simp; omega))))) ⟨w8.heap.size, 0, none⟩ 1 1 [.string x.name, .int .i64 x.n, .int .i64 x.d] rfl rfl (World.news_of_block (cs := #[.string x.name, .int .i64 x.n, .int .i64 x.d]) (blk_new rfl)) (by simp [Value.oneCell']) (by decide) (by unfold maxLen; omega) (by omega) (by simp; omega) _ rfl ?_); intro g9 c9 w9 hown9 hgrow9 hat9 hlt9)
            go_roundw
            case rel => exact ⟨k + 1, L ++ [c] ++ [x], true, by omega, by go_num, rfl, Lib.hid (Own.snoc hown9 (by simp) (by simp [itL])), Lib.hid (by rw [foldl_snoc HX.out, HF.out, ovI_here c x L HB.out]; exact if_neg HE.out), (by show _ ≤ k + 1 + 1; simp; omega), Below.grown (Below.alloc (hwq.trans hb8).drew (by show _ ≤ w8.heap.size; omega) _) hgrow9 (by simp; omega) (fun g hg => by have := (HO8.out.lt g hg).1; omega)⟩
            case measure => simp [intOf] <;> omega
    · obtain rfl : k = l.length := by omega
      have hlt2 : ¬ (l.length : Int) < (l.length : Int) := by omega
      have HFE : Hid (l.foldl (ovI c) ([], false) = (L, b)) := Lib.hid (by have := HF.out; rwa [List.take_length] at this)
      have HRW := Lib.hid HROW.out
      replace hLk : L.length ≤ l.length + 1 := Nat.le_trans hLk (by cases b <;> simp)
      clear HF HROW
      cases b with
      | true =>
        go_wp2_with fail
        go_ret
        exact ⟨⟨_, rfl, by rw [show putI l c = L by unfold putI; rw [HFE.out]; rfl]; exact own_mono HRW.out (by omega)⟩, hwr⟩
      | false =>
        go_wp2_with (at_builtin; go_must (refine wpList_append_lies _ rfl (.tmp 51) (.tmp 53) 22 rfl (w.heap.size + 1) 53 inf0 _ 3 32 Tryz.underlying22 hi jz0 jz1 jz2 rfl (by decide) _ (L).length _ rfl (own_below HRW.out (by (repeat' (first | with_reducible exact Below.refl _ _ | with_reducible assumption | with_reducible refine Below.drew ?_ | with_reducible refine below_drewN ?_ _ | with_reducible refine Below.setCell ?_ ?_ _ | with_reducible refine Below.alloc ?_ ?_ _ | omega | (simp; done) | (simp; omega))))) ⟨wr.heap.size, 0, none⟩ 1 1 [.string c.name, .int .i64 c.n, .int .i64 c.d] rfl rfl (World.news_of_block (cs := #[.string c.name, .int .i64 c.n, .int .i64 c.d]) (blk_new rfl)) (by simp [Value.oneCell']) (by decide) (by unfold maxLen; omega) (by omega) (by simp; omega) _ rfl ?_); intro g9 c9 w9 hown9 hgrow9 hat9 hlt9)
        go_ret
        exact ⟨⟨_, rfl, by rw [show putI l c = L ++ [c] by unfold putI; rw [HFE.out]; rfl]; exact own_mono (Own.snoc hown9 rfl rfl) (by omega)⟩, hb1.trans ((Below.grown (Below.alloc hwq (by omega) _) hgrow9 (by simp; omega) (fun g hg => by have := (HRW.out.lt g hg).1; omega)).mono (by omega))⟩
end

section
open Go.RowKit Go.Maps

set_option maxRecDepth 100000 in
set_option maxHeartbeats 8000000 in
theorem getR_any (l : List It) (A : Option Addr) (c : Nat) (s : ByteArray) (w : World) (h : RowAt itL 3 w w.heap.size A l) (hm : l.length ≤ 100000) :
    Calls Tryz.prog 74 #[.slice A l.length c, .string s] w fun e w' => e = .returned (getV (getI? l s.data.toList)) ∧ Below w.heap.size w w' := by
  have H1 := Lib.hid h
  clear h
  obtain ⟨R, hR⟩ : ∃ R, getV (getI? l s.data.toList) = R := ⟨_, rfl⟩
  rw [hR]
  have HR0 : Hid (getV (getI? (l.drop 0) s.data.toList) = R) := Lib.hid hR
  clear hR
  go_enter Tryz.func74, Tryz.ntmps74
  go_wp2_with fail
  have HB0 : Hid (Below w.heap.size w (w.alloc (.cells #[.int .i64 0, .int .i64 0] 39))) := Lib.hid (by (repeat' (first | with_reducible exact Below.refl _ _ | with_reducible assumption | with_reducible refine Below.drew ?_ | with_reducible refine below_drewN ?_ _ | with_reducible refine Below.setCell ?_ ?_ _ | with_reducible refine Below.alloc ?_ ?_ _ | omega | (simp; done) | (simp; omega))))
  have HC0 : Hid ((w.alloc (.cells #[.int .i64 0, .int .i64 0] 39)).heap[w.heap.size]? = some (.cells #[.int .i64 0, .int .i64 0] 39 (0, 0))) := Lib.hid (blk_new rfl)
  go_loopw [6] (fun i wr => ∃ k : Nat, k ≤ l.length ∧ i = .int .i64 k ∧ Hid (getV (getI? (l.drop k) s.data.toList) = R) ∧ Hid (wr.heap[w.heap.size]? = some (.cells #[.int .i64 0, .int .i64 0] 39 (0, 0))) ∧ Below w.heap.size w wr) (fun i _ => l.length - (intOf i).toNat)
  case atStart => exact ⟨0, Nat.zero_le _, rfl, HR0, HC0, HB0.out⟩
  case round =>
    clear HB0 HC0
    obtain ⟨k, hk, rfl, HT, HC, hw0⟩ := hrel
    have z0 := hw0.size
    have cC := cellH HC
    obtain ⟨lC, lC1, lC2⟩ := ltH HC
    have fz : ∀ o, wr.frozen? ⟨w.heap.size, o, none⟩ = false := fun o => by simp [World.frozen?, HC.out]
    by_cases hlt : k < l.length
    · obtain ⟨x, hx⟩ : ∃ x, l[k]? = some x := ⟨l[k], List.getElem?_eq_getElem hlt⟩
      obtain ⟨g1, o1, rfl, _, p0, p1, p2⟩ := cellsI (row_step H1.out hw0) hx
      have hdr : l.drop k = x :: l.drop (k + 1) := by
        rw [List.drop_eq_getElem_cons hlt]
        congr 1
        rw [List.getElem?_eq_getElem hlt] at hx
        injection hx
      have hlt2 : (k : Int) < (l.length : Int) := by omega
      clear hx
      by_cases hs : x.name = s
      · subst hs
        have HR : Hid (.tuple #[.agg #[.int .i64 x.n, .int .i64 x.d], .bool true] = R) := Lib.hid (by rw [← HT.out, hdr]; unfold getI? itb getV; simp)
        clear hdr HT
        go_wp2_with fail
        have B2 : Hid (((wr.setCell ⟨w.heap.size, 0, none⟩ (.int .i64 x.n)).setCell ⟨w.heap.size, 1, none⟩ (.int .i64 x.d)).heap[w.heap.size]? = some (.cells #[.int .i64 x.n, .int .i64 x.d] 39 (0, 0))) := Lib.hid (by simp [World.setCell, Array.getElem?_modify, HC.out])
        have cB2 := cellH B2
        refine bodyPost_ret (v := .tuple #[.agg #[.int .i64 x.n, .int .i64 x.d], .bool true]) (by simp [results, Tryz.results74, go_sem, cB2]) rfl ⟨by rw [← HR.out], by (repeat' (first | with_reducible exact Below.refl _ _ | with_reducible assumption | with_reducible refine Below.drew ?_ | with_reducible refine below_drewN ?_ _ | with_reducible refine Below.setCell ?_ ?_ _ | with_reducible refine Below.alloc ?_ ?_ _ | omega | (simp; done) | (simp; omega)))⟩
      · have hs2 : ¬ itb x = s.data.toList := fun e => hs (ba_inj e)
        have HT2 : Hid (getV (getI? (l.drop (k + 1)) s.data.toList) = R) := Lib.hid (by
          rw [← HT.out, hdr]
          unfold getI?
          rw [List.find?_cons, decide_eq_false hs2])
        have hs3 : ¬ x.name.toList = s.toList := fun e => hs (ba_inj (by rw [ByteArray.toList_eq, ByteArray.toList_eq] at e; exact e))
        have hs4 : (x.name.toList == s.toList) = false := by simpa using hs3
        clear hdr HT hs2
        go_wp2_with fail
        go_roundw
        case rel => exact ⟨k + 1, by omega, by go_num, HT2, HC, by (repeat' (first | with_reducible exact Below.refl _ _ | with_reducible assumption | with_reducible refine Below.drew ?_ | with_reducible refine below_drewN ?_ _ | with_reducible refine Below.setCell ?_ ?_ _ | with_reducible refine Below.alloc ?_ ?_ _ | omega | (simp; done) | (simp; omega)))⟩
        case measure => simp [intOf] <;> omega
    · obtain rfl : k = l.length := by omega
      have hlt2 : ¬ (l.length : Int) < (l.length : Int) := by omega
      have HR : Hid (.tuple #[.agg #[.int .i64 0, .int .i64 0], .bool false] = R) := Lib.hid (by rw [← HT.out, List.drop_length]; rfl)
      clear HT
      go_wp2_with fail
      have B2 : Hid (((wr.setCell ⟨w.heap.size, 0, none⟩ (.int .i64 0)).setCell ⟨w.heap.size, 1, none⟩ (.int .i64 0)).heap[w.heap.size]? = some (.cells #[.int .i64 0, .int .i64 0] 39 (0, 0))) := Lib.hid (by simp [World.setCell, Array.getElem?_modify, HC.out])
      have cB2 := cellH B2
      refine bodyPost_ret (v := .tuple #[.agg #[.int .i64 0, .int .i64 0], .bool false]) (by simp [results, Tryz.results74, go_sem, cB2]) rfl ⟨by rw [← HR.out], by (repeat' (first | with_reducible exact Below.refl _ _ | with_reducible assumption | with_reducible refine Below.drew ?_ | with_reducible refine below_drewN ?_ _ | with_reducible refine Below.setCell ?_ ?_ _ | with_reducible refine Below.alloc ?_ ?_ _ | omega | (simp; done) | (simp; omega)))⟩

set_option maxRecDepth 100000 in
set_option maxHeartbeats 8000000 in
theorem withoutR_any (l : List It) (s : ByteArray) (A : Option Addr) (cp : Nat) (w : World) (hl : RowAt itL 3 w w.heap.size A l) (hN : l.length ≤ 1000) :
    Calls Tryz.prog 51 #[.slice A l.length cp, .string s] w fun e w' => (∃ v, e = .returned v ∧ Own itL 3 53 w.heap.size w' v (l.filter (fun x => !decide (itb x = s.data.toList)))) ∧ Below w.heap.size w w' := by
  obtain ⟨inf0, hi, jz0, jz1, jz2⟩ := info_parts infoIt
  obtain ⟨MC, hMC, hmk⟩ : ∃ MC : Array Value, MC.size = l.length * 3 ∧ ∀ w : World, (Instr.makeSlice 22 (.int .i64 0) (.int .i64 (l.length : Int))).run Tryz.prog w = .ok (.slice (some ⟨w.heap.size, 0, none⟩) 0 l.length) (w.alloc (.cells MC 53)) := by
    refine ⟨madeCells (Value.agg #[.string ⟨#[]⟩, .int .i64 0, .int .i64 0]).cells (l.length * inf0.size), by rw [size_madeCells, jz1], fun w => ?_⟩
    have h := run_make (P := Tryz.prog) (w := w) 22 53 inf0 _ Tryz.underlying22 hi jz0 .i64 .i64 0 (l.length : Int) (Int.le_refl _) (by omega) (by rw [jz2]; omega) (by omega)
    simpa using h
  have HL := Lib.hid hl
  clear hl
  go_enter Tryz.func51, Tryz.ntmps51
  go_wp2_with fail
  obtain ⟨w1, hw1e⟩ : ∃ q, w.alloc (.cells MC 53) = q := ⟨_, rfl⟩
  have hb1 : Below w.heap.size w w1 := by rw [← hw1e]; (repeat' (first | with_reducible exact Below.refl _ _ | with_reducible assumption | with_reducible refine Below.drew ?_ | with_reducible refine below_drewN ?_ _ | with_reducible refine Below.setCell ?_ ?_ _ | with_reducible refine Below.alloc ?_ ?_ _ | omega | (simp; done) | (simp; omega)))
  have HO1 : Hid (Own itL 3 53 w.heap.size w1 (.slice (some ⟨w.heap.size, 0, none⟩) 0 l.length) []) := Lib.hid (by rw [← hw1e]; exact made_own (by simp) (Nat.le_refl _) (by unfold maxLen; omega) hMC)
  rw [hw1e]
  clear hw1e hmk hMC
  go_loopw [5, 6] (fun u i wr => ∃ (k : Nat) (L : List It), k ≤ l.length ∧ i = .int .i64 k ∧ Hid (Own itL 3 53 w.heap.size wr u L) ∧ Hid (L = (l.take k).filter (fun x => !decide (itb x = s.data.toList))) ∧ L.length ≤ k ∧ Below w.heap.size w wr) (fun _ i _ => l.length - (intOf i).toNat)
  case atStart => exact ⟨0, [], Nat.zero_le _, rfl, HO1, Lib.hid rfl, by simp, hb1⟩
  case round =>
    clear HO1
    obtain ⟨k, L, hk, rfl, HROW, HF, hLk, hwr⟩ := hrel
    have zq := hwr.size
    by_cases hlt : k < l.length
    · obtain ⟨x, hx⟩ : ∃ x, l[k]? = some x := ⟨l[k], List.getElem?_eq_getElem hlt⟩
      obtain ⟨g1, o1, rfl, hg1, p0, p1, p2⟩ := cellsI (HL.out.below hwr (Nat.le_refl _)) hx
      have HX := Lib.hid hx
      have HRW := Lib.hid HROW.out
      have hlt2 : (k : Int) < (l.length : Int) := by omega
      clear hx
      cases he : decide (x.name.data.toList = s.data.toList) with
      | true =>
        have hne := eq_law x.name s he
        have HE := Lib.hid (of_decide_eq_true he)
        clear he
        go_wp2_with fail
        go_roundw
        case rel => exact ⟨k + 1, L, by omega, by go_num, HRW, Lib.hid (by rw [take_snoc HX.out, List.filter_append, ← HF.out, List.filter_cons, List.filter_nil, show decide (itb x = s.data.toList) = true from decide_eq_true HE.out]; simp), by omega, hwr⟩
        case measure => simp [intOf] <;> omega
      | false =>
        have hne := eq_law x.name s he
        have HE := Lib.hid (of_decide_eq_false he)
        clear he
        go_wp2_with (at_builtin; go_must (refine wpList_append_lies _ rfl (.tmp 23) (.tmp 28) 22 rfl w.heap.size 53 inf0 _ 3 32 Tryz.underlying22 hi jz0 jz1 jz2 rfl (by decide) _ L.length _ rfl (own_below HRW.out (by (repeat' (first | with_reducible exact Below.refl _ _ | with_reducible assumption | with_reducible refine Below.drew ?_ | with_reducible refine below_drewN ?_ _ | with_reducible refine Below.setCell ?_ ?_ _ | with_reducible refine Below.alloc ?_ ?_ _ | omega | (simp; done) | (simp; omega))))) ⟨wr.heap.size, 0, none⟩ 1 1 [.string x.name, .int .i64 x.n, .int .i64 x.d] rfl rfl (World.news_of_block (cs := #[.string x.name, .int .i64 x.n, .int .i64 x.d]) (blk_new rfl)) (by simp [Value.oneCell']) (by decide) (by unfold maxLen; omega) (by omega) (by simp; omega) _ rfl ?_); intro g9 c9 w9 hown9 hgrow9 hat9 hlt9)
        go_roundw
        case rel => exact ⟨k + 1, L ++ [x], by omega, by go_num, Lib.hid (Own.snoc hown9 rfl rfl), Lib.hid (by rw [take_snoc HX.out, List.filter_append, ← HF.out, List.filter_cons, List.filter_nil, show decide (itb x = s.data.toList) = false from decide_eq_false HE.out]; simp), by simp; omega, Below.grown (Below.alloc hwr (by omega) _) hgrow9 (by simp; omega) (fun g hg => by have := (HRW.out.lt g hg).1; omega)⟩
        case measure => simp [intOf] <;> omega
    · obtain rfl : k = l.length := by omega
      have hlt2 : ¬ (l.length : Int) < (l.length : Int) := by omega
      have HRE : Hid (Own itL 3 53 w.heap.size wr _ (l.filter (fun x => !decide (itb x = s.data.toList)))) := Lib.hid (by have q := HF.out; rw [List.take_length] at q; rw [← q]; exact HROW.out)
      clear HF HROW
      go_wp2_with fail
      go_ret
      exact ⟨⟨_, rfl, HRE.out⟩, hwr⟩

theorem fewR_any (l : List Ch) (A : Option Addr) (cp : Nat) (w : World) (h5 : l.length ≤ 500) :
    Calls Tryz.prog 48 #[.slice A l.length cp] w fun e w' => e = .returned (.tuple #[.slice A l.length cp, .int .i64 0]) ∧ Below w.heap.size w w' := by
  have h6 : ¬ (500 : Int) < (l.length : Int) := by omega
  go_enter Tryz.func48, Tryz.ntmps48
  go_wp2_with fail
  go_ret2
  exact ⟨rfl, Below.refl _ _⟩
end

section
open Go.RowKit Go.Maps

theorem canon_nil : Canon (makeF ([].take 0)) [] := ⟨⟨List.Pairwise.nil, List.nodup_nil, fun x => by simp [makeF]⟩, fun c h => by cases h⟩
/-- what the document's Make answers -/
structure MakeRR (B : Nat) (l : List Ch) (e : Ending) (w' : World) : Prop where
  ex : ((∀ c ∈ l, mayE c = none) ∧ ∃ v rs, e = .returned (.tuple #[v, .int .i64 0]) ∧ Own chL 4 41 B w' v rs ∧ Canon (makeF l) rs ∧ rs.length ≤ 500) ∨ ((∃ c ∈ l, mayE c ≠ none) ∧ ∃ k : Int, k ≠ 0 ∧ e = .returned (.tuple #[.slice none 0 0, .int .i64 k]))

set_option maxRecDepth 100000 in
set_option maxHeartbeats 8000000 in
theorem makeR_any (l : List Ch) (A : Option Addr) (cp : Nat) (w : World) (hl : RowAt chL 4 w w.heap.size A l) (hn : l.length ≤ 500) (hI : ∀ c ∈ l, InC c) :
    Calls Tryz.prog 19 #[.slice A l.length cp] w fun e w' => MakeRR w.heap.size l e w' ∧ Below w.heap.size w w' := by
  have HL := Lib.hid hl
  have HI := Lib.hid hI
  clear hl hI
  go_enter Tryz.func19, Tryz.ntmps19
  go_wp2_with fail
  go_loopw [4, 5] (fun u i wr => ∃ (k : Nat) (L : List Ch), k ≤ l.length ∧ i = .int .i64 k ∧ Hid (Own chL 4 41 w.heap.size wr u L) ∧ Hid (Canon (makeF (l.take k)) L) ∧ Hid (∀ c ∈ l.take k, mayE c = none) ∧ L.length ≤ 500 ∧ Below w.heap.size w wr) (fun _ i _ => l.length - (intOf i).toNat)
  case atStart => exact ⟨0, [], Nat.zero_le _, rfl, Lib.hid Own.nil, Lib.hid canon_nil, Lib.hid (fun c h => by simp at h), by simp, Below.refl _ _⟩
  case round =>
    obtain ⟨k, L, hk, rfl, HROW, HC, HOK, hLk, hwr⟩ := hrel
    have z2 := hwr.size
    by_cases hlt : k < l.length
    · have hlt2 : (k : Int) < (l.length : Int) := by omega
      obtain ⟨⟨nm, cl, n, d⟩, hx⟩ : ∃ x, l[k]? = some x := ⟨l[k], List.getElem?_eq_getElem hlt⟩
      obtain ⟨hin, hid⟩ := HI.out _ (List.mem_of_getElem? hx)
      obtain ⟨g, off, rfl, hg, c0, c1, c2, c3⟩ := cellsC (HL.out.below hwr (Nat.le_refl _)) hx
      dsimp only at hin hid c0 c1 c2 c3
      have HX := Lib.hid hx
      have HIN := Lib.hid hin
      have HID := Lib.hid hid
      have HRW := Lib.hid HROW.out
      obtain ⟨A1, cp1, rfl, hr1, _, _⟩ := own_line (fun x _ => chL_len x) HRW.out
      have HR1 := Lib.hid hr1
      have HLN := Lib.hid (fun (r : List Ch) (hq : Canon (makeF (l.take (k + 1))) r) => Nat.le_trans (hq.len makeF_sup) (by simp; omega : ((l.take (k + 1)).map nmb).length ≤ 500))
      clear hx hr1 hin hid
      cases hi : inB nm with
      | false =>
        have HBAD : Hid (∃ c ∈ l, mayE c ≠ none) := Lib.hid ⟨_, List.mem_of_getElem? HX.out, by unfold mayE; simp [hi]⟩
        have HNI := Lib.hid (fun W => inputG_any nm false W hi)
        clear hi
        go_wp2_with fail
        refine (HNI.out _).mono ?_
        rintro e w3 ⟨rfl, hb3⟩
        have hw3 : Below w.heap.size w w3 := stepH (by (repeat' (first | with_reducible exact Below.refl _ _ | with_reducible assumption | with_reducible refine Below.drew ?_ | with_reducible refine below_drewN ?_ _ | with_reducible refine Below.setCell ?_ ?_ _ | with_reducible refine Below.alloc ?_ ?_ _ | omega | (simp; done) | (simp; omega)))) hb3
        go_wp2_with fail
        go_ret2
        exact ⟨⟨.inr ⟨HBAD.out, _, by decide, rfl⟩⟩, hw3⟩
      | true =>
        have HYI := Lib.hid (fun W => inputG_any nm true W hi)
        have HII := Lib.hid hi
        clear hi
        go_wp2_with fail
        refine (HYI.out _).mono ?_
        rintro e w3 ⟨rfl, hb3⟩
        have PB3 := keepH hb3 (g := wr.heap.size) (blk_new rfl)
        replace hb3 : Below wr.heap.size wr w3 := stepH (by (repeat' (first | with_reducible exact Below.refl _ _ | with_reducible assumption | with_reducible refine Below.drew ?_ | with_reducible refine below_drewN ?_ _ | with_reducible refine Below.setCell ?_ ?_ _ | with_reducible refine Below.alloc ?_ ?_ _ | omega | (simp; done) | (simp; omega)))) hb3
        have hw3 : Below w.heap.size w w3 := stepH hwr hb3
        have HR3 := Lib.hid (row_step HR1.out hb3)
        have cB := cellH PB3
        clear c0 c1 c2 c3 hb3
        by_cases h0 : n = 0
        · subst h0
          by_cases h1 : d = 0
          · subst h1
            cases cl with
            | true =>
              have HMAY : Hid (mayE ⟨nm, true, 0, 0⟩ = none) := Lib.hid (by unfold mayE; rw [HII.out]; simp)
              have HOV := Lib.hid (fun W h => overC_any L ⟨nm, true, 0, 0⟩ A1 cp1 W h (by omega))
              unfold chV at HOV
              dsimp only at HOV
              go_wp2_with fail
              refine (HOV.out _ HR3.out).mono ?_
              rintro e w5 ⟨⟨v5, rfl, hown5⟩, hb5⟩
              have hw5 : Below w.heap.size w w5 := stepH hw3 hb5
              have HO5 := Lib.hid (own_mono hown5 (hw3.size : w.heap.size ≤ _))
              have HC5 : Hid (Canon (makeF (l.take (k + 1))) (overC L ⟨nm, true, 0, 0⟩)) := Lib.hid (by rw [makeF_snoc HX.out]; exact over_canon HC.out)
              have hL5 := HLN.out _ HC5.out
              clear hown5 hb5
              go_wp2_with fail
              go_roundw
              case rel =>
                refine ⟨k + 1, _, by omega, by go_num, HO5, HC5, Lib.hid (fun q hq => ?_), hL5, hw5⟩
                rw [take_snoc HX.out] at hq
                rcases List.mem_append.1 hq with hq | hq
                · exact HOK.out q hq
                · simp only [List.mem_singleton] at hq; subst hq; exact HMAY.out
              case measure => simp [intOf] <;> omega
            | false =>
              cases hv : validB 0 0 with
              | true =>
                have HMAY : Hid (mayE ⟨nm, false, 0, 0⟩ = none) := Lib.hid (by unfold mayE; rw [HII.out]; simp [hv])
                have HOV := Lib.hid (fun W h => overC_any L ⟨nm, false, 0, 0⟩ A1 cp1 W h (by omega))
                unfold chV at HOV
                dsimp only at HOV
                have HV := Lib.hid (fun W => validR_is 0 0 true W hv HIN.out HID.out)
                clear hv
                go_wp2_with fail
                refine (HV.out _).mono ?_
                rintro e w4 ⟨rfl, hb4⟩
                have hw4 : Below w.heap.size w w4 := stepH hw3 hb4
                have PB4 := keepH hb4 PB3.out
                have cB4 := cellH PB4
                have HR4 := Lib.hid (row_step HR3.out hb4)
                clear cB
                go_wp2_with fail
                refine (HOV.out _ HR4.out).mono ?_
                rintro e w5 ⟨⟨v5, rfl, hown5⟩, hb5⟩
                have hw5 : Below w.heap.size w w5 := stepH hw4 hb5
                have HO5 := Lib.hid (own_mono hown5 (hw4.size : w.heap.size ≤ _))
                have HC5 : Hid (Canon (makeF (l.take (k + 1))) (overC L ⟨nm, false, 0, 0⟩)) := Lib.hid (by rw [makeF_snoc HX.out]; exact over_canon HC.out)
                have hL5 := HLN.out _ HC5.out
                clear hown5 hb5
                go_wp2_with fail
                go_roundw
                case rel =>
                  refine ⟨k + 1, _, by omega, by go_num, HO5, HC5, Lib.hid (fun q hq => ?_), hL5, hw5⟩
                  rw [take_snoc HX.out] at hq
                  rcases List.mem_append.1 hq with hq | hq
                  · exact HOK.out q hq
                  · simp only [List.mem_singleton] at hq; subst hq; exact HMAY.out
                case measure => simp [intOf] <;> omega
              | false =>
                have HBAD : Hid (∃ c ∈ l, mayE c ≠ none) := Lib.hid ⟨_, List.mem_of_getElem? HX.out, by unfold mayE; rw [HII.out]; simp [hv]⟩
                have HV := Lib.hid (fun W => validR_is 0 0 false W hv HIN.out HID.out)
                clear hv
                go_wp2_with fail
                refine (HV.out _).mono ?_
                rintro e w4 ⟨rfl, hb4⟩
                have hw4 : Below w.heap.size w w4 := stepH hw3 hb4
                clear cB
                go_wp2_with fail
                go_ret2
                exact ⟨⟨.inr ⟨HBAD.out, _, by decide, rfl⟩⟩, hw4⟩
          · have hz := h1
            have h2 : (d == 0) = false := by simpa using h1
            clear h1
            cases cl with
            | true =>
              have HBAD : Hid (∃ c ∈ l, mayE c ≠ none) := Lib.hid ⟨_, List.mem_of_getElem? HX.out, by unfold mayE; rw [HII.out]; simp [hz]⟩
              go_wp2_with fail
              go_ret2
              exact ⟨⟨.inr ⟨HBAD.out, _, by decide, rfl⟩⟩, hw3⟩
            | false =>
              cases hv : validB 0 d with
              | true =>
                have HMAY : Hid (mayE ⟨nm, false, 0, d⟩ = none) := Lib.hid (by unfold mayE; rw [HII.out]; simp [hv])
                have HOV := Lib.hid (fun W h => overC_any L ⟨nm, false, 0, d⟩ A1 cp1 W h (by omega))
                unfold chV at HOV
                dsimp only at HOV
                have HV := Lib.hid (fun W => validR_is 0 d true W hv HIN.out HID.out)
                clear hv
                go_wp2_with fail
                refine (HV.out _).mono ?_
                rintro e w4 ⟨rfl, hb4⟩
                have hw4 : Below w.heap.size w w4 := stepH hw3 hb4
                have PB4 := keepH hb4 PB3.out
                have cB4 := cellH PB4
                have HR4 := Lib.hid (row_step HR3.out hb4)
                clear cB
                go_wp2_with fail
                refine (HOV.out _ HR4.out).mono ?_
                rintro e w5 ⟨⟨v5, rfl, hown5⟩, hb5⟩
                have hw5 : Below w.heap.size w w5 := stepH hw4 hb5
                have HO5 := Lib.hid (own_mono hown5 (hw4.size : w.heap.size ≤ _))
                have HC5 : Hid (Canon (makeF (l.take (k + 1))) (overC L ⟨nm, false, 0, d⟩)) := Lib.hid (by rw [makeF_snoc HX.out]; exact over_canon HC.out)
                have hL5 := HLN.out _ HC5.out
                clear hown5 hb5
                go_wp2_with fail
                go_roundw
                case rel =>
                  refine ⟨k + 1, _, by omega, by go_num, HO5, HC5, Lib.hid (fun q hq => ?_), hL5, hw5⟩
                  rw [take_snoc HX.out] at hq
                  rcases List.mem_append.1 hq with hq | hq
                  · exact HOK.out q hq
                  · simp only [List.mem_singleton] at hq; subst hq; exact HMAY.out
                case measure => simp [intOf] <;> omega
              | false =>
                have HBAD : Hid (∃ c ∈ l, mayE c ≠ none) := Lib.hid ⟨_, List.mem_of_getElem? HX.out, by unfold mayE; rw [HII.out]; simp [hv]⟩
                have HV := Lib.hid (fun W => validR_is 0 d false W hv HIN.out HID.out)
                clear hv
                go_wp2_with fail
                refine (HV.out _).mono ?_
                rintro e w4 ⟨rfl, hb4⟩
                have hw4 : Below w.heap.size w w4 := stepH hw3 hb4
                clear cB
                go_wp2_with fail
                go_ret2
                exact ⟨⟨.inr ⟨HBAD.out, _, by decide, rfl⟩⟩, hw4⟩
        · have hz := h0
          have h2 : (n == 0) = false := by simpa using h0
          clear h0
          cases cl with
          | true =>
            have HBAD : Hid (∃ c ∈ l, mayE c ≠ none) := Lib.hid ⟨_, List.mem_of_getElem? HX.out, by unfold mayE; rw [HII.out]; simp [hz]⟩
            go_wp2_with fail
            go_ret2
            exact ⟨⟨.inr ⟨HBAD.out, _, by decide, rfl⟩⟩, hw3⟩
          | false =>
            cases hv : validB n d with
            | true =>
              have HMAY : Hid (mayE ⟨nm, false, n, d⟩ = none) := Lib.hid (by unfold mayE; rw [HII.out]; simp [hv])
              have HOV := Lib.hid (fun W h => overC_any L ⟨nm, false, n, d⟩ A1 cp1 W h (by omega))
              unfold chV at HOV
              dsimp only at HOV
              have HV := Lib.hid (fun W => validR_is n d true W hv HIN.out HID.out)
              clear hv
              go_wp2_with fail
              refine (HV.out _).mono ?_
              rintro e w4 ⟨rfl, hb4⟩
              have hw4 : Below w.heap.size w w4 := stepH hw3 hb4
              have PB4 := keepH hb4 PB3.out
              have cB4 := cellH PB4
              have HR4 := Lib.hid (row_step HR3.out hb4)
              clear cB
              go_wp2_with fail
              refine (HOV.out _ HR4.out).mono ?_
              rintro e w5 ⟨⟨v5, rfl, hown5⟩, hb5⟩
              have hw5 : Below w.heap.size w w5 := stepH hw4 hb5
              have HO5 := Lib.hid (own_mono hown5 (hw4.size : w.heap.size ≤ _))
              have HC5 : Hid (Canon (makeF (l.take (k + 1))) (overC L ⟨nm, false, n, d⟩)) := Lib.hid (by rw [makeF_snoc HX.out]; exact over_canon HC.out)
              have hL5 := HLN.out _ HC5.out
              clear hown5 hb5
              go_wp2_with fail
              go_roundw
              case rel =>
                refine ⟨k + 1, _, by omega, by go_num, HO5, HC5, Lib.hid (fun q hq => ?_), hL5, hw5⟩
                rw [take_snoc HX.out] at hq
                rcases List.mem_append.1 hq with hq | hq
                · exact HOK.out q hq
                · simp only [List.mem_singleton] at hq; subst hq; exact HMAY.out
              case measure => simp [intOf] <;> omega
            | false =>
              have HBAD : Hid (∃ c ∈ l, mayE c ≠ none) := Lib.hid ⟨_, List.mem_of_getElem? HX.out, by unfold mayE; rw [HII.out]; simp [hv]⟩
              have HV := Lib.hid (fun W => validR_is n d false W hv HIN.out HID.out)
              clear hv
              go_wp2_with fail
              refine (HV.out _).mono ?_
              rintro e w4 ⟨rfl, hb4⟩
              have hw4 : Below w.heap.size w w4 := stepH hw3 hb4
              clear cB
              go_wp2_with fail
              go_ret2
              exact ⟨⟨.inr ⟨HBAD.out, _, by decide, rfl⟩⟩, hw4⟩
    · obtain rfl : k = l.length := by omega
      have hlt2 : ¬ (l.length : Int) < (l.length : Int) := by omega
      have HCE : Hid (Canon (makeF l) L) := Lib.hid (by have := HC.out; rwa [List.take_length] at this)
      have HOE : Hid (∀ c ∈ l, mayE c = none) := Lib.hid (by have := HOK.out; rwa [List.take_length] at this)
      have HRW := Lib.hid HROW.out
      obtain ⟨A1, cp1, rfl, hr1, _, _⟩ := own_line (fun x _ => chL_len x) HRW.out
      clear HC HOK HROW hr1
      go_wp2_with fail
      refine (fewR_any L A1 cp1 _ (by omega)).mono ?_
      rintro e w7 ⟨rfl, hb7⟩
      have HO7 := Lib.hid (HRW.out.below hb7)
      have hw7 := stepH hwr hb7
      go_wp2_with fail
      go_ret2
      exact ⟨⟨.inl ⟨HOE.out, _, L, rfl, HO7.out, HCE.out, hLk⟩⟩, hw7⟩
end

section
open Go.RowKit Go.Maps

theorem getR_none (l : List It) (A : Option Addr) (c : Nat) (s : ByteArray) (w : World) (h : RowAt itL 3 w w.heap.size A l) (hm : l.length ≤ 100000) (hr : getI? l s.data.toList = none) :
    Calls Tryz.prog 74 #[.slice A l.length c, .string s] w fun e w' => e = .returned (.tuple #[.agg #[.int .i64 0, .int .i64 0], .bool false]) ∧ Below w.heap.size w w' := by
  have q := getR_any l A c s w h hm
  rw [hr] at q
  exact q
theorem getR_some (l : List It) (A : Option Addr) (c : Nat) (s : ByteArray) (a b : Int) (w : World) (h : RowAt itL 3 w w.heap.size A l) (hm : l.length ≤ 100000) (hr : getI? l s.data.toList = some (a, b)) :
    Calls Tryz.prog 74 #[.slice A l.length c, .string s] w fun e w' => e = .returned (.tuple #[.agg #[.int .i64 a, .int .i64 b], .bool true]) ∧ Below w.heap.size w w' := by
  have q := getR_any l A c s w h hm
  rw [hr] at q
  exact q
theorem canonI_nil (l : List It) : CanonI (inF (l.take 0)) [] := ⟨⟨List.Pairwise.nil, List.nodup_nil, fun x => by simp [inF]⟩, fun c h => by cases h⟩
/-- what the document's Inputs answers -/
structure InputsRR (B : Nat) (l : List It) (e : Ending) (w' : World) : Prop where
  ex : (faultI l = none ∧ ∃ v rs, e = .returned (.tuple #[v, .int .i64 0]) ∧ Own itL 3 53 B w' v rs ∧ CanonI (inF l) rs) ∨ (faultI l ≠ none ∧ ∃ k : Int, k ≠ 0 ∧ e = .returned (.tuple #[.slice none 0 0, .int .i64 k]))
/-- items ahead are ones -/
structure OkI (l : List It) : Prop where
  each : ∀ x ∈ l, inB x.name = true ∧ validB x.n x.d = true
  nodup : (l.map itb).Nodup
theorem OkI.fault {l : List It} (h : OkI l) (h5 : l.length ≤ 500) : faultI l = none := by
  unfold faultI
  rw [if_neg (by omega)]
  exact goI_ok l [] (fun x hx => ⟨(h.each x hx).1, (h.each x hx).2, by simp⟩) h.nodup
theorem getI_canon {s : St} {L : List It} (h : CanonI s L) (y : List UInt8) : getI? L y = s y := by rw [getI_inF h.keys.nodup, h.inF]
theorem setS_snoc {l : List It} {k : Nat} {x : It} (h : l[k]? = some x) : setS (inF (l.take k)) x = inF (l.take (k + 1)) := by rw [inF_snoc h]; rfl

set_option maxRecDepth 100000 in
set_option maxHeartbeats 8000000 in
theorem inputsR_any (l : List It) (A : Option Addr) (cp : Nat) (w : World) (hl : RowAt itL 3 w w.heap.size A l) (hI : ∀ x ∈ l, InI x) :
    Calls Tryz.prog 50 #[.slice A l.length cp] w fun e w' => InputsRR w.heap.size l e w' ∧ Below w.heap.size w w' := by
  by_cases h5 : (500 : Int) < (l.length : Int)
  · have HBAD : Hid (faultI l ≠ none) := Lib.hid (fun h => by have := (faultI_none h).1; omega)
    go_enter Tryz.func50, Tryz.ntmps50
    go_wp2_with fail
    go_ret2
    exact ⟨⟨.inr ⟨HBAD.out, _, by decide, rfl⟩⟩, Below.refl _ _⟩
  have hn : l.length ≤ 500 := by omega
  have HL := Lib.hid hl
  have HI := Lib.hid hI
  clear hl hI
  go_enter Tryz.func50, Tryz.ntmps50
  go_wp2_with fail
  go_loopw [4, 5] (fun u i wr => ∃ (k : Nat) (L : List It), k ≤ l.length ∧ i = .int .i64 k ∧ Hid (Own itL 3 53 w.heap.size wr u L) ∧ Hid (CanonI (inF (l.take k)) L) ∧ Hid (OkI (l.take k)) ∧ L.length ≤ 500 ∧ Below w.heap.size w wr) (fun _ i _ => l.length - (intOf i).toNat)
  case atStart => exact ⟨0, [], Nat.zero_le _, rfl, Lib.hid Own.nil, Lib.hid (canonI_nil l), Lib.hid ⟨fun x h => by simp at h, by simp⟩, by simp, Below.refl _ _⟩
  case round =>
    obtain ⟨k, L, hk, rfl, HROW, HC, HOK, hLk, hwr⟩ := hrel
    have z2 := hwr.size
    by_cases hlt : k < l.length
    · have hlt2 : (k : Int) < (l.length : Int) := by omega
      obtain ⟨⟨nm, n, d⟩, hx⟩ : ∃ x, l[k]? = some x := ⟨l[k], List.getElem?_eq_getElem hlt⟩
      obtain ⟨hin, hid⟩ := HI.out _ (List.mem_of_getElem? hx)
      obtain ⟨g, off, rfl, hg, c0, c1, c2⟩ := cellsI (HL.out.below hwr (Nat.le_refl _)) hx
      dsimp only at hin hid c0 c1 c2
      have HX := Lib.hid hx
      have HIN := Lib.hid hin
      have HID := Lib.hid hid
      have HRW := Lib.hid HROW.out
      obtain ⟨A1, cp1, rfl, hr1, _, _⟩ := own_line (fun x _ => itL_len x) HRW.out
      have HR1 := Lib.hid hr1
      have HLN := Lib.hid (fun (r : List It) (hq : CanonI (inF (l.take (k + 1))) r) => Nat.le_trans (hq.len (fun y hy => (inF_some y).1 hy)) (by simp; omega : ((l.take (k + 1)).map itb).length ≤ 500))
      clear hx hr1 hin hid
      cases hi : inB nm with
      | false =>
        have HBAD : Hid (faultI l ≠ none) := Lib.hid (fun h => by
          have := ((faultI_none h).2.1 _ (List.mem_of_getElem? HX.out)).1
          rw [show inB nm = true from this] at hi
          cases hi)
        have HNI := Lib.hid (fun W => inputG_any nm false W hi)
        clear hi
        go_wp2_with fail
        refine (HNI.out _).mono ?_
        rintro e w3 ⟨rfl, hb3⟩
        have hw3 : Below w.heap.size w w3 := stepH (by (repeat' (first | with_reducible exact Below.refl _ _ | with_reducible assumption | with_reducible refine Below.drew ?_ | with_reducible refine below_drewN ?_ _ | with_reducible refine Below.setCell ?_ ?_ _ | with_reducible refine Below.alloc ?_ ?_ _ | omega | (simp; done) | (simp; omega)))) hb3
        go_wp2_with fail
        go_ret2
        exact ⟨⟨.inr ⟨HBAD.out, _, by decide, rfl⟩⟩, hw3⟩
      | true =>
        have HYI := Lib.hid (fun W => inputG_any nm true W hi)
        have HII := Lib.hid hi
        clear hi
        go_wp2_with fail
        refine (HYI.out _).mono ?_
        rintro e w3 ⟨rfl, hb3⟩
        have hw3 : Below w.heap.size w w3 := stepH hwr hb3
        have HR3 := Lib.hid (row_step HR1.out hb3)
        have q0 := cell_at c0 hb3
        have q1 := cell_at c1 hb3
        have q2 := cell_at c2 hb3
        clear c0 c1 c2
        cases hv : validB n d with
        | false =>
          have HBAD : Hid (faultI l ≠ none) := Lib.hid (fun h => by
            have := ((faultI_none h).2.1 _ (List.mem_of_getElem? HX.out)).2
            rw [show validB n d = true from this] at hv
            cases hv)
          have HV := Lib.hid (fun W => validR_is n d false W hv HIN.out HID.out)
          clear hv
          go_wp2_with fail
          refine (HV.out _).mono ?_
          rintro e w4 ⟨rfl, hb4⟩
          have hw4 : Below w.heap.size w w4 := stepH hw3 hb4
          go_wp2_with fail
          go_ret2
          exact ⟨⟨.inr ⟨HBAD.out, _, by decide, rfl⟩⟩, hw4⟩
        | true =>
          have HV := Lib.hid (fun W => validR_is n d true W hv HIN.out HID.out)
          have HVV := Lib.hid hv
          clear hv
          go_wp2_with fail
          refine (HV.out _).mono ?_
          rintro e w4 ⟨rfl, hb4⟩
          have hw4 : Below w.heap.size w w4 := stepH hw3 hb4
          have HR4 := Lib.hid (row_step HR3.out hb4)
          have c0 := cell_at q0 hb4
          have c1 := cell_at q1 hb4
          have c2 := cell_at q2 hb4
          clear q0 q1 q2
          cases hs : getI? L nm.data.toList with
          | some ab =>
            obtain ⟨a, b⟩ := ab
            have HBAD : Hid (faultI l ≠ none) := Lib.hid (fun h => by
              have h3 := (faultI_none h).2.2
              have h4 : nm.data.toList ∈ (l.take k).map itb := (inF_some _).1 (by rw [← getI_canon HC.out, hs]; rfl)
              have h5 := h3.sublist ((List.take_sublist (k + 1) l).map itb)
              rw [take_snoc HX.out, List.map_append, List.nodup_append] at h5
              exact h5.2.2 _ h4 _ (List.mem_singleton.2 rfl) rfl)
            have HG := Lib.hid (fun W h => getR_some L A1 cp1 nm a b W h (by omega) hs)
            clear hs
            go_wp2_with fail
            refine (HG.out _ HR4.out).mono ?_
            rintro e w5 ⟨rfl, hb5⟩
            have hw5 : Below w.heap.size w w5 := stepH hw4 hb5
            have z5 := hw5.size
            go_wp2_with fail
            go_ret2
            exact ⟨⟨.inr ⟨HBAD.out, _, by decide, rfl⟩⟩, by (repeat' (first | with_reducible exact Below.refl _ _ | with_reducible assumption | with_reducible refine Below.drew ?_ | with_reducible refine below_drewN ?_ _ | with_reducible refine Below.setCell ?_ ?_ _ | with_reducible refine Below.alloc ?_ ?_ _ | omega | (simp; done) | (simp; omega)))⟩
          | none =>
            have HNOT : Hid (nm.data.toList ∉ (l.take k).map itb) := Lib.hid (fun h4 => by
              have := (inF_some (l := l.take k) _).2 h4
              rw [← getI_canon HC.out, hs] at this
              cases this)
            have HG := Lib.hid (fun W h => getR_none L A1 cp1 nm W h (by omega) hs)
            have HPU := Lib.hid (fun W h => putI_any L ⟨nm, n, d⟩ A1 cp1 W h (by omega))
            unfold itV at HPU
            dsimp only at HPU
            clear hs
            go_wp2_with fail
            refine (HG.out _ HR4.out).mono ?_
            rintro e w5 ⟨rfl, hb5⟩
            have hw5 : Below w.heap.size w w5 := stepH hw4 hb5
            have HR5 := Lib.hid (row_step HR4.out hb5)
            have q0 := cell_at c0 hb5
            have q1 := cell_at c1 hb5
            have q2 := cell_at c2 hb5
            have z5 := hw5.size
            have lg : g < w5.heap.size := World.block_lt_of_cell? _ _ q0
            have lg2 : g ≠ w5.heap.size := by omega
            clear c0 c1 c2
            go_wp2_with fail
            refine (HPU.out _ (row_step HR5.out (by (repeat' (first | with_reducible exact Below.refl _ _ | with_reducible assumption | with_reducible refine Below.drew ?_ | with_reducible refine below_drewN ?_ _ | with_reducible refine Below.setCell ?_ ?_ _ | with_reducible refine Below.alloc ?_ ?_ _ | omega | (simp; done) | (simp; omega)))))).mono ?_
            rintro e w6 ⟨⟨v6, rfl, hown6⟩, hb6⟩
            have hw6 : Below w.heap.size w w6 := stepH (by (repeat' (first | with_reducible exact Below.refl _ _ | with_reducible assumption | with_reducible refine Below.drew ?_ | with_reducible refine below_drewN ?_ _ | with_reducible refine Below.setCell ?_ ?_ _ | with_reducible refine Below.alloc ?_ ?_ _ | omega | (simp; done) | (simp; omega)))) hb6
            have HO6 := Lib.hid (own_mono hown6 (show w.heap.size ≤ _ by simp; omega))
            have HC6 : Hid (CanonI (inF (l.take (k + 1))) (putI L ⟨nm, n, d⟩)) := Lib.hid (by rw [← setS_snoc HX.out]; exact put_canon HC.out)
            have hL6 := HLN.out _ HC6.out
            have HOK6 : Hid (OkI (l.take (k + 1))) := Lib.hid (by
              rw [take_snoc HX.out]
              refine ⟨fun x hx => ?_, ?_⟩
              · rcases List.mem_append.1 hx with hx | hx
                · exact HOK.out.each x hx
                · simp only [List.mem_singleton] at hx
                  subst hx
                  exact ⟨HII.out, HVV.out⟩
              · rw [List.map_append, List.nodup_append]
                refine ⟨HOK.out.nodup, by simp, fun a ha b hb e => ?_⟩
                simp only [List.map_cons, List.map_nil, List.mem_singleton] at hb
                subst hb
                subst e
                exact HNOT.out ha)
            clear hown6 hb6
            go_wp2_with fail
            go_roundw
            case rel => exact ⟨k + 1, _, by omega, by go_num, HO6, HC6, HOK6, hL6, hw6⟩
            case measure => simp [intOf] <;> omega
    · obtain rfl : k = l.length := by omega
      have hlt2 : ¬ (l.length : Int) < (l.length : Int) := by omega
      have HCE : Hid (CanonI (inF l) L) := Lib.hid (by have := HC.out; rwa [List.take_length] at this)
      have HOE : Hid (faultI l = none) := Lib.hid (by have := HOK.out; rw [List.take_length] at this; exact this.fault hn)
      have HRW := Lib.hid HROW.out
      clear HC HOK HROW
      go_wp2_with fail
      go_ret2
      exact ⟨⟨.inl ⟨HOE.out, _, L, rfl, HRW.out, HCE.out⟩⟩, hwr⟩
end

end Go.Proofs.YtmoeoomlggjaaaaGreatDoor
