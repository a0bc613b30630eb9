/- The document's Name, at a name: walks. -/
import Derived.Test.YtodlbfekoohpoaaDoorBootD
import Derived.Lib.IndexBytes
namespace Go.Proofs.YtodlbfekoohpoaaDoor
open Go.RowKit

theorem okW_any {b : Bool} {c : UInt8} (h : okW b c = true) : okW false c = true := by
  unfold okW at h ⊢
  cases b <;> simp_all
/-- words between points, the first one begun -/
def wordsOk : List UInt8 → List UInt8 → Bool
  | acc, [] => wordL acc
  | acc, c :: r => if c = 46 then wordL acc && wordsOk [] r else wordsOk (acc ++ [c]) r
theorem word_nodot {l : List UInt8} (h : wordL l = true) : ∀ c ∈ l, okW false c = true := by
  cases l with
  | nil => cases h
  | cons c r =>
    have h' : (okW true c && r.all (okW false)) = true := h
    simp only [Bool.and_eq_true, List.all_eq_true] at h'
    intro x hx
    rcases List.mem_cons.1 hx with rfl | hx
    · exact okW_any h'.1
    · exact h'.2 x hx
theorem ok_ne {c : UInt8} (h : okW false c = true) : c ≠ 46 := fun e => by subst e; revert h; decide
theorem words_plain : ∀ (l acc : List UInt8), (∀ c ∈ l, c ≠ 46) → wordsOk acc l = wordL (acc ++ l)
  | [], acc, _ => by rw [List.append_nil]; rfl
  | c :: r, acc, h => by
    show (if c = 46 then _ else wordsOk (acc ++ [c]) r) = _
    rw [if_neg (h c (List.mem_cons_self ..)), words_plain r _ (fun x hx => h x (List.mem_cons_of_mem _ hx)), List.append_assoc]
    rfl
theorem words_cut : ∀ (a : List UInt8) (acc r : List UInt8), (∀ c ∈ a, c ≠ 46) → wordsOk acc (a ++ 46 :: r) = (wordL (acc ++ a) && wordsOk [] r)
  | [], acc, r, _ => by rw [List.append_nil]; rfl
  | c :: a, acc, r, h => by
    show (if c = 46 then _ else wordsOk (acc ++ [c]) (a ++ 46 :: r)) = _
    rw [if_neg (h c (List.mem_cons_self ..)), words_cut a _ r (fun x hx => h x (List.mem_cons_of_mem _ hx)), List.append_assoc]
    rfl
theorem words_split : ∀ (k : Nat) (l : List UInt8), (Lib.splitK [46] 0 k l).all wordL = true → wordsOk [] l = true
  | 0, l, h => by
    have h1 : wordL l = true := by simpa [Lib.splitK] using h
    rw [words_plain l [] (fun c hc => ok_ne (word_nodot h1 c hc))]
    exact h1
  | k + 1, l, h => by
    rcases Lib.index_spec l [46] with ⟨hix, _⟩ | ⟨i, hix, hi, hocc, _⟩
    · have h1 : wordL l = true := by simpa [Lib.splitK, hix] using h
      rw [words_plain l [] (fun c hc => ok_ne (word_nodot h1 c hc))]
      exact h1
    · have h2 : wordL (l.take i) = true ∧ (Lib.splitK [46] 0 k (l.drop (i + 1))).all wordL = true := by
        have hne : ¬ ((i : Int) = -1) := by omega
        simpa [Lib.splitK, hix, hne] using h
      have hd : l.drop i = 46 :: l.drop (i + 1) := by
        unfold Lib.occAt at hocc
        cases hl : l.drop i with
        | nil => rw [hl] at hocc; cases hocc
        | cons x r =>
          rw [hl] at hocc
          have : x = 46 := (show (46 : UInt8) = x by simpa [List.isPrefixOf] using hocc).symm
          subst this
          have h3 : (l.drop i).drop 1 = l.drop (i + 1) := by rw [List.drop_drop]
          rw [hl] at h3
          rw [← h3]; rfl
      have he : l = l.take i ++ 46 :: l.drop (i + 1) := by rw [← hd, List.take_append_drop]
      rw [he, words_cut _ [] _ (fun c hc => ok_ne (word_nodot h2.1 c hc)), List.nil_append, h2.1, words_split k _ h2.2]
      rfl
theorem nameB_words {s : ByteArray} (h : nameB s = true) : s.size ≤ 64 ∧ wordsOk [] s.data.toList = true := by
  unfold nameB at h
  simp only [Bool.and_eq_true, decide_eq_true_eq] at h
  refine ⟨h.2.1, words_split (Lib.countB s dotB) _ ?_⟩
  have := Lib.splitB_data dotB 0 (Lib.countB s dotB) s
  show (Lib.splitK dotB.data.toList 0 _ _).all wordL = true
  rw [← this, List.all_map]
  exact h.2.2

theorem digitR_any (c : UInt8) (w : World) : Calls Tryd.prog 52 #[.int .u8 c.toNat] w fun e w' => e = .returned (.bool (digB c)) ∧ Below w.heap.size w w' := by
  unfold digB
  by_cases h1 : 48 ≤ c.toNat
  · have e1 : decide ((48 : Int) ≤ (c.toNat : Int)) = true := decide_eq_true (by omega)
    by_cases h2 : c.toNat ≤ 57
    · have e2 : decide ((c.toNat : Int) ≤ 57) = true := decide_eq_true (by omega)
      rw [decide_eq_true h1, decide_eq_true h2]
      go_enter Tryd.func52, Tryd.ntmps52
      go_wp2_with fail
      go_ret
      exact ⟨rfl, by (repeat' (first | with_reducible exact Below.refl _ _ | with_reducible assumption | with_reducible refine Below.drew ?_ | with_reducible refine below_drewN ?_ _ | with_reducible refine Below.setCell ?_ ?_ _ | with_reducible refine Below.alloc ?_ ?_ _ | omega | (simp; done) | (simp; omega)))⟩
    · have e2 : decide ((c.toNat : Int) ≤ 57) = false := decide_eq_false (by omega)
      rw [decide_eq_true h1, decide_eq_false h2]
      go_enter Tryd.func52, Tryd.ntmps52
      go_wp2_with fail
      go_ret
      exact ⟨rfl, by (repeat' (first | with_reducible exact Below.refl _ _ | with_reducible assumption | with_reducible refine Below.drew ?_ | with_reducible refine below_drewN ?_ _ | with_reducible refine Below.setCell ?_ ?_ _ | with_reducible refine Below.alloc ?_ ?_ _ | omega | (simp; done) | (simp; omega)))⟩
  · have e1 : decide ((48 : Int) ≤ (c.toNat : Int)) = false := decide_eq_false (by omega)
    rw [decide_eq_false h1]
    go_enter Tryd.func52, Tryd.ntmps52
    go_wp2_with fail
    go_ret
    exact ⟨rfl, by (repeat' (first | with_reducible exact Below.refl _ _ | with_reducible assumption | with_reducible refine Below.drew ?_ | with_reducible refine below_drewN ?_ _ | with_reducible refine Below.setCell ?_ ?_ _ | with_reducible refine Below.alloc ?_ ?_ _ | omega | (simp; done) | (simp; omega)))⟩

theorem letterR_any (c : UInt8) (w : World) (h : okW false c = true) : Calls Tryd.prog 47 #[.int .u8 c.toNat] w fun e w' => e = .returned (.bool true) ∧ Below w.heap.size w w' := by
  have HD := Lib.hid (fun w => digitR_any c w)
  by_cases h1 : 97 ≤ c.toNat ∧ c.toNat ≤ 122
  · have e1 : decide ((97 : Int) ≤ (c.toNat : Int)) = true := decide_eq_true (by omega)
    have e2 : decide ((c.toNat : Int) ≤ 122) = true := decide_eq_true (by omega)
    clear h h1
    go_enter Tryd.func47, Tryd.ntmps47
    go_wp2_with fail
    go_ret
    exact ⟨rfl, by (repeat' (first | with_reducible exact Below.refl _ _ | with_reducible assumption | with_reducible refine Below.drew ?_ | with_reducible refine below_drewN ?_ _ | with_reducible refine Below.setCell ?_ ?_ _ | with_reducible refine Below.alloc ?_ ?_ _ | omega | (simp; done) | (simp; omega)))⟩
  · have HO : Hid ((digB c || c == 95) = true) := by
      show _ = _
      unfold okW at h
      rw [show (decide (97 ≤ c.toNat) && decide (c.toNat ≤ 122)) = false by simp; omega] at h
      simpa using h
    cases hd : digB c with
    | true =>
      have HDB := Lib.hid hd
      by_cases h2 : 97 ≤ c.toNat
      · have e1 : decide ((97 : Int) ≤ (c.toNat : Int)) = true := decide_eq_true (by omega)
        have e2 : decide ((c.toNat : Int) ≤ 122) = false := decide_eq_false (by omega)
        clear h h1 h2 hd
        go_enter Tryd.func47, Tryd.ntmps47
        go_wp2_with fail
        refine (HD.out _).mono ?_
        rintro e w1 ⟨rfl, hb1⟩
        rw [HDB.out]
        go_wp2_with fail
        go_ret
        exact ⟨rfl, hb1⟩
      · have e1 : decide ((97 : Int) ≤ (c.toNat : Int)) = false := decide_eq_false (by omega)
        clear h h1 h2 hd
        go_enter Tryd.func47, Tryd.ntmps47
        go_wp2_with fail
        refine (HD.out _).mono ?_
        rintro e w1 ⟨rfl, hb1⟩
        rw [HDB.out]
        go_wp2_with fail
        go_ret
        exact ⟨rfl, hb1⟩
    | false =>
      have HDB := Lib.hid hd
      have h5 : c = 95 := by have := HO.out; rw [hd] at this; simpa using this
      subst h5
      clear h h1 hd
      go_enter Tryd.func47, Tryd.ntmps47
      go_wp2_with fail
      refine (HD.out _).mono ?_
      rintro e w1 ⟨rfl, hb1⟩
      rw [HDB.out]
      go_wp2_with fail
      go_ret
      exact ⟨rfl, hb1⟩

set_option maxRecDepth 10000 in
set_option maxHeartbeats 4000000 in
theorem wordR_any (s : ByteArray) (w : World) (hm : s.size ≤ 100000) (h : wordL s.data.toList = true) : Calls Tryd.prog 41 #[.string s] w fun e w' => e = .returned (.bool true) ∧ Below w.heap.size w w' := by
  have HA := Lib.hid (word_nodot h)
  obtain ⟨c, r, hcr⟩ : ∃ c r, s.data.toList = c :: r := by
    cases hl : s.data.toList with
    | nil => rw [hl] at h; cases h
    | cons c r => exact ⟨c, r, rfl⟩
  have hok : okW true c = true := by
    rw [hcr] at h
    have h' : (okW true c && r.all (okW false)) = true := h
    simp only [Bool.and_eq_true] at h'
    exact h'.1
  have hz : 0 < s.size := by
    have : s.size = s.data.toList.length := rfl
    rw [this, hcr, List.length_cons]; omega
  have i0 : ∀ hh, s[0]'hh = c := fun hh => by
    have h0 : s.data.toList[0]? = some c := by rw [hcr]; rfl
    have := (List.getElem?_eq_some_iff.1 h0).2
    rw [← this]; rfl
  have e0 : s.toList.isEmpty = false := by rw [ByteArray.toList_eq, hcr]; rfl
  have hb : 97 ≤ c.toNat ∧ c.toNat ≤ 122 := by unfold okW at hok; simpa using hok
  have e1 : decide ((c.toNat : Int) < 97) = false := decide_eq_false (by omega)
  have e2 : decide ((122 : Int) < (c.toNat : Int)) = false := decide_eq_false (by omega)
  have z0 : (0 : Int) < (s.size : Int) := by omega
  clear h hcr hok hb
  go_enter Tryd.func41, Tryd.ntmps41
  go_wp2_with fail
  clear i0 e1 e2
  go_loopw [3] (fun i wr => ∃ k : Nat, k ≤ s.size ∧ i = .int .i64 k ∧ Below w.heap.size w wr) (fun i _ => s.size - (intOf i).toNat)
  case atStart => exact ⟨0, Nat.zero_le _, rfl, Below.refl _ _⟩
  case round =>
    obtain ⟨k, hk, rfl, hb⟩ := hrel
    by_cases hlt : k < s.size
    · have hlt2 : (k : Int) < (s.size : Int) := by omega
      obtain ⟨x, hx⟩ : ∃ x, s[k]'hlt = x := ⟨_, rfl⟩
      have i0 : ∀ hh, s[k]'hh = x := fun _ => hx
      have HX : Hid (okW false x = true) := HA.out x (by rw [← hx]; exact Array.getElem_mem_toList _)
      have k1 : (0 : Int) ≤ (k : Int) := by omega
      have k2 : ((k : Int)).toNat = k := by omega
      clear hx
      go_wp2_with fail
      refine (letterR_any x _ HX.out).mono ?_
      rintro e w2 ⟨rfl, hb2⟩
      go_wp2_with fail
      go_roundw
      case rel => exact ⟨k + 1, by omega, by go_num, stepH hb hb2⟩
      case measure => simp [intOf]; omega
    · have hlt2 : ¬ (k : Int) < (s.size : Int) := by omega
      go_wp2_with fail
      go_ret
      exact ⟨rfl, hb⟩

def encS (s : ByteArray) : List Value := [.string s]
theorem encS_len (s : ByteArray) : (encS s).length = 1 := rfl
theorem infoS5 : (Tryd.prog.info? 9).map (fun i => (i.zero, i.size, i.bytes)) = some (some (.string ByteArray.empty), 1, 16) := by kernel_rfl
theorem ext_self (s : ByteArray) (f : Nat) : (s.extract f f).data.toList = [] := by simp
theorem ext_snoc {s : ByteArray} {f k : Nat} {c : UInt8} (hf : f ≤ k) (hc : s.data.toList[k]? = some c) : (s.extract f (k + 1)).data.toList = (s.extract f k).data.toList ++ [c] := by
  have hl := (List.getElem?_eq_some_iff.1 hc).1
  have h1 : ∀ n, (s.extract f n).data.toList = (s.data.toList.take n).drop f := fun n => by simp [Array.toList_extract, List.extract_eq_take_drop, List.drop_take]
  rw [h1, h1, List.take_add_one, hc]
  rw [List.drop_append_of_le_length (by rw [List.length_take]; omega)]
  rfl

set_option maxRecDepth 10000 in
set_option maxHeartbeats 4000000 in
theorem wordsR_any (s : ByteArray) (w : World) (hm : s.size ≤ 64) (h : wordsOk [] s.data.toList = true) : Calls Tryd.prog 40 #[.string s] w fun e w' => ∃ v, ∃ l : List ByteArray, e = .returned v ∧ Own encS 1 9 w.heap.size w' v l ∧ (∀ x ∈ l, wordL x.data.toList = true ∧ x.size ≤ 64) ∧ l.length ≤ 65 ∧ Below w.heap.size w w' := by
  obtain ⟨inf0, hi, jz0, jz1, jz2⟩ := info_parts infoS5
  have H0 := Lib.hid h
  clear h
  go_enter Tryd.func40, Tryd.ntmps40
  go_wp2_with fail
  go_loopw [3, 4, 5] (fun v fv kv wr => ∃ (k f : Nat) (out : List ByteArray), f ≤ k ∧ k ≤ s.size + 1 ∧ fv = .int .i64 f ∧ kv = .int .i64 k ∧ Own encS 1 9 w.heap.size wr v out ∧ Hid ((∀ x ∈ out, wordL x.data.toList = true ∧ x.size ≤ 64) ∧ (k ≤ s.size → wordsOk (s.extract f k).data.toList (s.data.toList.drop k) = true)) ∧ out.length ≤ k ∧ Below w.heap.size w wr) (fun _ _ kv _ => s.size + 1 - (intOf kv).toNat)
  case atStart => exact ⟨0, 0, [], Nat.le_refl _, by omega, rfl, rfl, Own.nil, ⟨fun x hx => by simp at hx, fun _ => by rw [ext_self, List.drop_zero]; exact H0.out⟩, Nat.le_refl _, Below.refl _ _⟩
  case round =>
    obtain ⟨k, f, out, hfk, hk, rfl, rfl, hown, HH, hlen, hb⟩ := hrel
    have HO := Lib.hid hown
    obtain ⟨A, c, hv, hA1, hA2, _⟩ := Own.rows (fun x _ => encS_len x) hown
    subst hv
    clear hown
    have hz := hb.size
    by_cases hlt : k ≤ s.size
    · have m1 : (k : Int) ≤ (s.size : Int) := by omega
      have hx64 : (s.extract f k).size ≤ 64 := by rw [ByteArray.size_extract]; omega
      by_cases heq : k = s.size
      · have m2 : ((k : Int) == (s.size : Int)) = true := by rw [beq_iff_eq]; omega
        have HW : Hid (wordL (s.extract f k).data.toList = true) := by
          have := HH.out.2 hlt
          have hd : s.data.toList.drop k = [] := List.drop_of_length_le (by rw [heq]; exact Nat.le_refl _)
          rw [hd] at this
          exact this
        have m3 : (0 : Int) ≤ (f : Int) := by omega
        have m4 : (f : Int) ≤ (k : Int) := by omega
        have m5 : ((f : Int)).toNat = f := by omega
        have m6 : ((k : Int)).toNat = k := by omega
        have HEQ := Lib.hid heq
        clear heq
        go_wp2_with (at_builtin; go_must (refine wpList_append_own _ rfl (.tmp 22) (.tmp 27) 67 rfl w.heap.size 9 inf0 _ 1 16 Tryd.underlying67 hi jz0 jz1 jz2 rfl (by decide) _ out.length _ rfl (own_below HO.out (by (repeat' (first | with_reducible exact Below.refl _ _ | with_reducible assumption | with_reducible refine Below.drew ?_ | with_reducible refine below_drewN ?_ _ | with_reducible refine Below.setCell ?_ ?_ _ | with_reducible refine Below.alloc ?_ ?_ _ | omega | (simp; done) | (simp; omega))))) ⟨wr.heap.size, 0, none⟩ 1 1 [.string (s.extract f k)] rfl rfl (cell_one_new _ _ _) (by simp [Value.oneCell']) (by unfold maxLen; omega) (by omega) (by simp; omega) ?_); intro v' w9 hown9 hgrow9 _)
        go_roundw
        case rel =>
          refine ⟨k + 1, k + 1, out ++ [s.extract f k], Nat.le_refl _, by omega, by go_num, by go_num, Own.snoc hown9 rfl rfl, ⟨fun x hx => ?_, fun hle => ?_⟩, by rw [List.length_append, List.length_singleton]; omega, (Below.alloc hb hz _).grown hgrow9 (by simp; omega) (fun g hg => (HO.out.lt g hg).1)⟩
          · rcases List.mem_append.1 hx with e | e
            · exact HH.out.1 x e
            · rw [List.mem_singleton.1 e]; exact ⟨HW.out, hx64⟩
          · exact absurd hle (by have := HEQ.out; omega)
        case measure => simp [intOf]; omega
      · have hlt2 : k < s.size := by omega
        have m2 : ((k : Int) == (s.size : Int)) = false := by rw [beq_eq_false_iff_ne]; omega
        obtain ⟨x, hx⟩ : ∃ x, s[k]'hlt2 = x := ⟨_, rfl⟩
        have i0 : ∀ hh, s[k]'hh = x := fun _ => hx
        have HX : Hid (s.data.toList[k]? = some x) := by show _ = _; rw [← hx]; simp [ByteArray.getElem_eq_getElem_data, hlt2]
        have HD : Hid (s.data.toList.drop k = x :: s.data.toList.drop (k + 1)) := by
          have h1 := (List.getElem?_eq_some_iff.1 HX.out)
          obtain ⟨h2, h3⟩ := h1
          show _ = _
          rw [List.drop_eq_getElem_cons h2, h3]
        have HI : Hid (wordsOk (s.extract f k).data.toList (x :: s.data.toList.drop (k + 1)) = true) := by show _ = _; rw [← HD.out]; exact HH.out.2 hlt
        have m3 : (0 : Int) ≤ (f : Int) := by omega
        have m4 : (f : Int) ≤ (k : Int) := by omega
        have m5 : ((f : Int)).toNat = f := by omega
        have m6 : ((k : Int)).toNat = k := by omega
        have m7 : (0 : Int) ≤ (k : Int) := by omega
        have m8 : (k : Int) < (s.size : Int) := by omega
        clear hx heq
        by_cases hdot : x = 46
        · subst hdot
          have HW : Hid (wordL (s.extract f k).data.toList = true ∧ wordsOk [] (s.data.toList.drop (k + 1)) = true) := by
            have h1 : (if (46 : UInt8) = 46 then wordL (s.extract f k).data.toList && wordsOk [] (s.data.toList.drop (k + 1)) else _) = true := HI.out
            rw [if_pos rfl, Bool.and_eq_true] at h1
            exact h1
          have m9 : (((46 : UInt8).toNat : Int) == 46) = true := by decide
          go_wp2_with (at_builtin; go_must (refine wpList_append_own _ rfl (.tmp 22) (.tmp 27) 67 rfl w.heap.size 9 inf0 _ 1 16 Tryd.underlying67 hi jz0 jz1 jz2 rfl (by decide) _ out.length _ rfl (own_below HO.out (by (repeat' (first | with_reducible exact Below.refl _ _ | with_reducible assumption | with_reducible refine Below.drew ?_ | with_reducible refine below_drewN ?_ _ | with_reducible refine Below.setCell ?_ ?_ _ | with_reducible refine Below.alloc ?_ ?_ _ | omega | (simp; done) | (simp; omega))))) ⟨wr.heap.size, 0, none⟩ 1 1 [.string (s.extract f k)] rfl rfl (cell_one_new _ _ _) (by simp [Value.oneCell']) (by unfold maxLen; omega) (by omega) (by simp; omega) ?_); intro v' w9 hown9 hgrow9 _)
          go_roundw
          case rel =>
            refine ⟨k + 1, k + 1, out ++ [s.extract f k], Nat.le_refl _, by omega, by go_num, by go_num, Own.snoc hown9 rfl rfl, ⟨fun x hx => ?_, fun hle => ?_⟩, by rw [List.length_append, List.length_singleton]; omega, (Below.alloc hb hz _).grown hgrow9 (by simp; omega) (fun g hg => (HO.out.lt g hg).1)⟩
            · rcases List.mem_append.1 hx with e | e
              · exact HH.out.1 x e
              · rw [List.mem_singleton.1 e]; exact ⟨HW.out.1, hx64⟩
            · rw [ext_self]; exact HW.out.2
          case measure => simp [intOf]; omega
        · have m9 : ((x.toNat : Int) == 46) = false := by rw [beq_eq_false_iff_ne]; intro h; exact hdot (UInt8.toNat_inj.1 (show x.toNat = (46 : UInt8).toNat by (have h46 : (46 : UInt8).toNat = 46 := rfl); omega))
          have HI2 : Hid (wordsOk (s.extract f (k + 1)).data.toList (s.data.toList.drop (k + 1)) = true) := by
            show _ = _
            rw [ext_snoc hfk HX.out]
            have h1 : (if x = 46 then _ else wordsOk ((s.extract f k).data.toList ++ [x]) (s.data.toList.drop (k + 1))) = true := HI.out
            rw [if_neg hdot] at h1
            exact h1
          clear hdot
          go_wp2_with fail
          go_roundw
          case rel => exact ⟨k + 1, f, out, by omega, by omega, rfl, by go_num, own_below HO.out (by (repeat' (first | with_reducible exact Below.refl _ _ | with_reducible assumption | with_reducible refine Below.drew ?_ | with_reducible refine below_drewN ?_ _ | with_reducible refine Below.setCell ?_ ?_ _ | with_reducible refine Below.alloc ?_ ?_ _ | omega | (simp; done) | (simp; omega)))), ⟨HH.out.1, fun _ => HI2.out⟩, by omega, by (repeat' (first | with_reducible exact Below.refl _ _ | with_reducible assumption | with_reducible refine Below.drew ?_ | with_reducible refine below_drewN ?_ _ | with_reducible refine Below.setCell ?_ ?_ _ | with_reducible refine Below.alloc ?_ ?_ _ | omega | (simp; done) | (simp; omega)))⟩
          case measure => simp [intOf]; omega
    · have m1 : ¬ (k : Int) ≤ (s.size : Int) := by omega
      go_wp2_with fail
      go_ret
      exact ⟨_, rfl, out, HO.out, HH.out.1, by omega, hb⟩

set_option maxRecDepth 10000 in
set_option maxHeartbeats 4000000 in
theorem nameR_any (s : ByteArray) (w : World) (h : nameB s = true) : Calls Tryd.prog 16 #[.string s] w fun e w' => e = .returned (.bool true) ∧ Below w.heap.size w w' := by
  obtain ⟨hz, hok⟩ := nameB_words h
  have HOK := Lib.hid hok
  have e1 : ¬ (64 : Int) < (s.size : Int) := by omega
  clear h hok
  go_enter Tryd.func16, Tryd.ntmps16
  go_wp2_with fail
  refine (wordsR_any s _ hz HOK.out).mono ?_
  rintro e w1 ⟨v, l, rfl, ho, hw, hl, hb1⟩
  obtain ⟨A, c, hv, hA1, hA2, hrow⟩ := Own.rows (fun x _ => encS_len x) ho
  subst hv
  have HR := Lib.hid hrow
  have HW := Lib.hid hw
  clear ho hw hrow
  go_wp2_with fail
  go_loopw [4] (fun i wr => ∃ k : Nat, k ≤ l.length ∧ i = .int .i64 k ∧ Below w1.heap.size w1 wr) (fun i _ => l.length - (intOf i).toNat)
  case atStart => exact ⟨0, Nat.zero_le _, rfl, Below.refl _ _⟩
  case round =>
    obtain ⟨k, hk, rfl, hb⟩ := hrel
    by_cases hlt : k < l.length
    · have m1 : (k : Int) < (l.length : Int) := by omega
      obtain ⟨x, hx⟩ : ∃ x, l[k]? = some x := ⟨l[k], List.getElem?_eq_getElem hlt⟩
      obtain ⟨b, off, rfl, _, hc⟩ := HR.out.below hb (Nat.le_refl _) k x hx
      have c0 : wr.cell? ⟨b, off + k, none⟩ = some (.string x) := by have := hc 0 _ rfl; simpa using this
      have HX := Lib.hid (HW.out x (List.mem_of_getElem? hx))
      clear hx hc
      go_wp2_with fail
      refine (wordR_any x _ (by have := HX.out.2; omega) HX.out.1).mono ?_
      rintro e w2 ⟨rfl, hb2⟩
      go_wp2_with fail
      go_roundw
      case rel => exact ⟨k + 1, by omega, by go_num, stepH hb hb2⟩
      case measure => simp [intOf]; omega
    · have m1 : ¬ (k : Int) < (l.length : Int) := by omega
      go_wp2_with fail
      go_ret
      exact ⟨rfl, hb1.trans (hb.mono hb1.size)⟩

end Go.Proofs.YtodlbfekoohpoaaDoor
