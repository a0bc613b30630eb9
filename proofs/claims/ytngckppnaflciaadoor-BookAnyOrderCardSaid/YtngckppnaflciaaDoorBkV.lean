/- Book.where: the plain law of sorting; the walk. -/
import Derived.Test.YtngckppnaflciaaDoorBkU
import Derived.Test.YtngckppnaflciaaDoorIter
namespace Go.Proofs.YtngckppnaflciaaDoor
open Go.RowKit Go.Maps

/-- the provisions by rising ids -/
def getS (S : List Pv) (x : List UInt8) : Option Pv := S.find? (fun p => decide (idb p = x))
def idsS (S : List Pv) : List (List UInt8) := (S.map idb).mergeSort leB
def srt (S : List Pv) : List Pv := (idsS S).filterMap (getS S)
theorem getS_of {S : List Pv} (hn : (S.map idb).Nodup) {p : Pv} (hp : p ∈ S) : getS S (idb p) = some p := by
  induction S with
  | nil => simp at hp
  | cons q r ih =>
    rw [List.map_cons, List.nodup_cons] at hn
    unfold getS
    rw [List.find?_cons]
    rcases List.mem_cons.1 hp with rfl | hp
    · simp
    · have : idb q ≠ idb p := fun e => hn.1 (by rw [e]; exact List.mem_map.2 ⟨p, hp, rfl⟩)
      rw [decide_eq_false this]
      exact ih hn.2 hp
theorem getS_some {S : List Pv} {x : List UInt8} {p : Pv} (h : getS S x = some p) : p ∈ S ∧ idb p = x := ⟨List.mem_of_find?_eq_some h, by simpa using List.find?_some h⟩
theorem ids_mem {S : List Pv} {x : List UInt8} : x ∈ idsS S ↔ ∃ p ∈ S, idb p = x := by
  unfold idsS; rw [List.mem_mergeSort, List.mem_map]
theorem ids_len (S : List Pv) : (idsS S).length = S.length := by unfold idsS; rw [List.length_mergeSort, List.length_map]
theorem srt_ids {S : List Pv} (hn : (S.map idb).Nodup) : (srt S).map idb = idsS S := by
  unfold srt
  have h : ∀ l : List (List UInt8), (∀ x ∈ l, ∃ p ∈ S, idb p = x) → (l.filterMap (getS S)).map idb = l := by
    intro l hl
    induction l with
    | nil => rfl
    | cons x r ih =>
      obtain ⟨p, hp, e⟩ := hl x (List.mem_cons_self ..)
      have hg := getS_of hn hp
      rw [e] at hg
      rw [List.filterMap_cons, hg, List.map_cons, e, ih (fun y hy => hl y (List.mem_cons_of_mem _ hy))]
  exact h _ (fun x hx => ids_mem.1 hx)
theorem srt_mem {S : List Pv} (hn : (S.map idb).Nodup) {p : Pv} : p ∈ srt S ↔ p ∈ S := by
  unfold srt
  rw [List.mem_filterMap]
  constructor
  · rintro ⟨x, _, h⟩; exact (getS_some h).1
  · intro h; exact ⟨idb p, ids_mem.2 ⟨p, h, rfl⟩, getS_of hn h⟩
theorem srt_nodup {S : List Pv} (hn : (S.map idb).Nodup) : ((srt S).map idb).Nodup := by
  rw [srt_ids hn]; unfold idsS
  exact (List.mergeSort_perm _ _).nodup_iff.2 hn
theorem srt_len {S : List Pv} (hn : (S.map idb).Nodup) : (srt S).length = S.length := by
  rw [← List.length_map (f := idb), srt_ids hn, ids_len]
theorem getS_perm {S S' : List Pv} (hp : S.Perm S') (hn : (S.map idb).Nodup) (x : List UInt8) : getS S x = getS S' x := by
  have hn' : (S'.map idb).Nodup := (hp.map idb).nodup_iff.1 hn
  cases h : getS S x with
  | some p =>
    obtain ⟨h1, h2⟩ := getS_some h
    rw [← h2, getS_of hn' (hp.mem_iff.1 h1)]
  | none =>
    cases h' : getS S' x with
    | none => rfl
    | some q =>
      obtain ⟨h1, h2⟩ := getS_some h'
      rw [← h2, getS_of hn (hp.mem_iff.2 h1)] at h
      cases h
theorem srt_perm {S S' : List Pv} (hp : S.Perm S') (hn : (S.map idb).Nodup) : srt S = srt S' := by
  unfold srt
  rw [show idsS S = idsS S' from mergeSort_of_perm (hp.map idb), show getS S = getS S' from funext (getS_perm hp hn)]
theorem enc_idb (p : Pv) : Proofs.encStr (idb p) = .string p.id := by simp [Proofs.encStr, idb]

/-- a provision's cells where its scale lies -/
abbrev Pl := Pv × Option Addr × Nat
def encT (x : Pl) : List Value := pvL x.1 x.2.1 x.2.2
theorem encT_len (x : Pl) : (encT x).length = 15 := rfl
theorem infoPv : (Tryd.prog.info? 43).map (fun i => (i.zero, i.size, i.bytes)) = some (some (.agg #[.string ⟨#[]⟩, .string ⟨#[]⟩, .int .i64 0, .int .i64 0, .int .i64 0, .int .i64 0, .string ⟨#[]⟩, .int .i64 0, .int .i64 0, .int .i64 0, .slice none 0 0, .string ⟨#[]⟩, .int .i64 0, .int .i64 0, .int .i64 0]), 15, 168) := by kernel_rfl
/-- a row of provisions whose scales lie elsewhere -/
structure RowP (base : Nat) (w : World) (v : Value) (L : List Pl) : Prop where
  own : Own encT 15 43 base w v L
  at' : ∀ x ∈ L, PvAt w w.heap.size x.1 x.2.1 x.2.2
  far : ∀ x ∈ L, x.1.scale ≠ [] → ∀ a, x.2.1 = some a → v.ownBlock ≠ some a.block
theorem RowP.nil (base : Nat) (w : World) : RowP base w (.slice none 0 0) [] := ⟨Own.nil, fun x h => by simp at h, fun x h => by simp at h⟩
theorem RowP.step {base : Nat} {w w' : World} {v : Value} {L : List Pl} (h : RowP base w v L) (hb : Below w.heap.size w w') : RowP base w' v L := ⟨h.own.below hb, fun x hx => (h.at' x hx).step hb, h.far⟩
theorem RowP.provs {base : Nat} {w : World} {v : Value} {L : List Pl} (h : RowP base w v L) : ∃ A c, v = .slice A L.length c ∧ L.length ≤ c ∧ c ≤ maxLen ∧ (A = none → c = 0) ∧ ProvsAt w w.heap.size A (L.map (·.1)) := by
  obtain ⟨A, c, hv, hlc, hcm, hr⟩ := Own.rows (fun x _ => encT_len x) h.own
  obtain ⟨A', c', hv', _, hA, _⟩ := own_line (fun x _ => encT_len x) h.own
  rw [hv] at hv'
  injection hv' with e1 e2 e3
  subst e1 e3
  refine ⟨A, c, hv, hlc, hcm, hA, fun k p hk => ?_⟩
  rw [List.getElem?_map] at hk
  obtain ⟨x, hx, rfl⟩ := Option.map_eq_some_iff.1 hk
  obtain ⟨b, off, h1, h2, h3⟩ := hr k x hx
  exact ⟨b, off, x.2.1, x.2.2, h1, h2, h3, h.at' x (List.mem_of_getElem? hx)⟩
/-- one more is appended -/
theorem RowP.snoc {base n : Nat} {w w' : World} {v : Value} {L : List Pl} {x : Pl} {g c : Nat} {xs : List Value} (h : RowP base w v L) (hx : PvAt w w.heap.size x.1 x.2.1 x.2.2) (hfar : x.1.scale ≠ [] → ∀ a, x.2.1 = some a → v.ownBlock ≠ some a.block)
    (ho : w'.ownsRow base 43 15 (.slice (some ⟨g, 0, none⟩) n c) n xs) (hn : n = L.length + 1) (hxs : xs = L.flatMap encT ++ encT x) (hg : w.grownBy w' v.ownBlock) (hat : v.ownBlock = some g ∨ g = w.heap.size) : RowP base w' (.slice (some ⟨g, 0, none⟩) n c) (L ++ [x]) := by
  have keep : ∀ (p : Pv) (A : Option Addr) (c : Nat), PvAt w w.heap.size p A c → (p.scale ≠ [] → ∀ a, A = some a → v.ownBlock ≠ some a.block) → PvAt w' w'.heap.size p A c := fun p A c hp hf => ⟨fun k y hy => by
    obtain ⟨b, off, h1, h2, h3⟩ := hp.row k y hy
    have hf' := hf (fun e => by rw [e] at hy; simp at hy) _ h1
    exact ⟨b, off, h1, Nat.lt_of_lt_of_le h2 hg.size, fun j u hj => (World.grownBy.cell_far hg ⟨b, off + k * 4 + j, none⟩ h2 (fun e => hf' e.symm)).trans (h3 j u hj)⟩, hp.cap⟩
  have fresh : ∀ (p : Pv) (A : Option Addr) (c : Nat), p.scale ≠ [] → PvAt w w.heap.size p A c → ∀ a, A = some a → a.block < w.heap.size := fun p A c hs hp a ha => by
    cases hsc : p.scale with
    | nil => exact absurd hsc hs
    | cons y r =>
      obtain ⟨b, off, h1, h2, _⟩ := hp.row 0 y (by rw [hsc]; rfl)
      rw [ha] at h1; injection h1 with h1; rw [h1]; exact h2
  have farg : ∀ (p : Pv) (A : Option Addr) (c' : Nat), PvAt w w.heap.size p A c' → (p.scale ≠ [] → ∀ a, A = some a → v.ownBlock ≠ some a.block) → p.scale ≠ [] → ∀ a, A = some a → (Value.slice (some ⟨g, 0, none⟩) n c).ownBlock ≠ some a.block := fun p A c' hp hf hs a ha e => by
    have e' : some g = some a.block := e
    rcases hat with h1 | h1
    · exact hf hs a ha (h1.trans e')
    · injection e' with e'; have := fresh p A c' hs hp a ha; omega
  subst hn hxs
  refine ⟨?_, fun y hy => ?_, fun y hy => ?_⟩
  · unfold Own
    rw [List.length_append, List.flatMap_append, List.length_singleton]
    simpa using ho
  · rcases List.mem_append.1 hy with hy | hy
    · exact keep _ _ _ (h.at' y hy) (h.far y hy)
    · simp at hy; subst hy; exact keep _ _ _ hx hfar
  · rcases List.mem_append.1 hy with hy | hy
    · exact farg _ _ _ (h.at' y hy) (h.far y hy)
    · simp at hy; subst hy; exact farg _ _ _ hx hfar

set_option maxRecDepth 100000 in
set_option maxHeartbeats 4000000 in
theorem clipP_any (A : Option Addr) (n c : Nat) (w : World) (hc : n ≤ c) (hm : c ≤ maxLen) (hA : A = none → c = 0) : Calls Tryd.prog 44 #[.slice A n c] w fun e w' => e = .returned (.slice A n n) ∧ w' = w := by
  replace hm : c ≤ 9223372036854775807 := by unfold maxLen at hm; omega
  cases A with
  | none =>
    obtain rfl : c = 0 := hA rfl
    obtain rfl : n = 0 := by omega
    go_enter Tryd.func44, Tryd.ntmps44
    go_wp2_with fail
    go_ret
    exact ⟨rfl, rfl⟩
  | some a =>
    go_enter Tryd.func44, Tryd.ntmps44
    go_wp2_with fail
    go_ret
    exact ⟨rfl, rfl⟩
end Go.Proofs.YtngckppnaflciaaDoor
