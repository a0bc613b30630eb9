/- A map of inputs read and listed: words for Apply. -/
import Derived.Test.YtmoeoomlggjaaaaGreatDoorAmW
namespace Go.Proofs.YtmoeoomlggjaaaaGreatDoor
open Go.RowKit Go.Maps

theorem RF_keys {w : World} {M n : Nat} {D : DataW Value} {s : St} (ho : w.ownsMap Tryz.prog 9 RV M n D) (h : ReadF D s) {ss : List (List UInt8)} (hp : ss.Perm (strKeys D)) : SKI s (ss.mergeSort leB) := by
  obtain ⟨es, rfl, hpw, _⟩ := ho.entries lawS
  obtain ⟨es', e, hko⟩ := ho.keysOf
  injection e with e
  subst e
  have hks : ∀ p ∈ es, ∃ x, p.1 = .string x := fun p hp => by obtain ⟨v, hv⟩ := hko p hp; obtain ⟨x, _, hx, _⟩ := Maps.keyOf_str Tryz.underlying9 hv; exact ⟨x, hx⟩
  have hmem : ∀ x, x ∈ strKeys (.map es) ↔ Maps.has (.map es) (.string x) = true := fun x => by
    rw [has_eq, List.any_eq_true]
    show x ∈ es.map (fun p => strOf p.1) ↔ _
    rw [List.mem_map]
    constructor
    · rintro ⟨p, hp, rfl⟩
      obtain ⟨a, ha⟩ := hks p hp
      exact ⟨p, hp, by rw [ha]; simp [Lit.sameKey, strOf]⟩
    · rintro ⟨p, hp, hq⟩
      obtain ⟨a, ha⟩ := hks p hp
      refine ⟨p, hp, ?_⟩
      rw [ha] at hq ⊢
      simpa [Lit.sameKey, strOf] using hq
  have hnd : (strKeys (.map es)).Nodup := by
    show (es.map fun p => strOf p.1).Nodup
    refine List.pairwise_map.2 (hpw.imp_of_mem fun {p q} hp' hq' hne e => hne ?_)
    obtain ⟨a, ha⟩ := hks p hp'
    obtain ⟨b, hb⟩ := hks q hq'
    rw [ha, hb] at e ⊢
    exact congrArg _ e
  exact ⟨List.pairwise_mergeSort leB_trans leB_total ss, (List.mergeSort_perm ss leB).nodup_iff.2 (hp.nodup_iff.2 hnd), fun x => by
    rw [List.mem_mergeSort, hp.mem_iff, hmem x, h.has x]⟩
theorem canonI_keys {s : St} {ks : List (List UInt8)} (h : SKI s ks) : ∃ rs, CanonI s rs ∧ rs.length = ks.length := by
  have e : ∀ l : List (List UInt8), (∀ x ∈ l, (s x).isSome = true) → ∃ rs : List It, rs.map itb = l ∧ ∀ x ∈ rs, s (itb x) = some (x.n, x.d) := by
    intro l hl
    induction l with
    | nil => exact ⟨[], rfl, fun x h => by cases h⟩
    | cons k r ih =>
      obtain ⟨rs, h1, h2⟩ := ih (fun x hx => hl x (List.mem_cons_of_mem _ hx))
      obtain ⟨v, hv⟩ := Option.isSome_iff_exists.1 (hl k (List.mem_cons_self ..))
      refine ⟨⟨mkN k, v.1, v.2⟩ :: rs, by rw [List.map_cons, h1]; unfold itb; rw [mkN_list], fun x hx => ?_⟩
      rcases List.mem_cons.1 hx with rfl | hx
      · unfold itb; rw [mkN_list]; exact hv
      · exact h2 x hx
  obtain ⟨rs, h1, h2⟩ := e ks (fun x hx => (h.mem x).1 hx)
  exact ⟨rs, ⟨by rw [h1]; exact h, h2⟩, by rw [← h1]; simp⟩
theorem RF_canon {w : World} {M n : Nat} {D : DataW Value} {s : St} (ho : w.ownsMap Tryz.prog 9 RV M n D) (h : ReadF D s) : ∃ rs, CanonI s rs ∧ rs.length = Maps.size D := by
  obtain ⟨rs, h1, h2⟩ := canonI_keys (RF_keys ho h (List.Perm.refl _))
  exact ⟨rs, h1, by rw [h2, List.length_mergeSort, keys_size ho]⟩

theorem zeroF (w : World) : (zeroValue 39).run Tryz.prog w = .ok (.agg #[.int .i64 0, .int .i64 0]) w := by kernel_rfl
set_option maxRecDepth 100000 in
theorem ReadF.find {D : DataW Value} {s : St} (h : ReadF D s) {x : It} (hs : x.name.size ≤ maxLen) (hv : s (itb x) = some (x.n, x.d)) (W : World) (n M : Nat) (ho : W.ownsMap Tryz.prog 9 RV M n D) :
    (Instr.lookup 83 (.map (some M)) (.string x.name) false).run Tryz.prog W = .ok (.agg #[.int .i64 x.n, .int .i64 x.d]) W := by
  have hkey := keyS_of hs
  obtain ⟨v, ps, hr, hv'⟩ := ho.lookup lawS Tryz.underlying83 (zeroF W) (zd := .held (.agg #[.int .i64 0, .int .i64 0])) (zp := []) rfl hkey
  have e := RV_inv hv'
  rw [show keyS x.name = .string (itb x) from rfl, h.at' _ _ hv] at e
  injection e with e
  rw [hr, ← e]
  rfl
theorem own_mono {α : Type} {enc : α → List Value} {size e b b' : Nat} {w : World} {v : Value} {l : List α} (h : Own enc size e b w v l) (hb : b' ≤ b) : Own enc size e b' w v l := by
  unfold Own at *
  obtain ⟨h0, h1 | ⟨g, c, cs, h1, h2, h3⟩⟩ := h
  · exact ⟨h0, .inl h1⟩
  · exact ⟨h0, .inr ⟨g, c, cs, h1, Nat.le_trans hb h2, h3⟩⟩

/-- what Apply answers where the inputs are ones -/
structure ApplyR (E : Nat → Addr) (s : St) (B : Nat) (e : Ending) (w' : World) : Prop where
  ex : ∃ rs, CanonI s rs ∧ ((rs.length ≤ 500 ∧ ∃ v, e = .returned (.tuple #[v, .nilIface]) ∧ Own itL 3 53 B w' v rs) ∨ (500 < rs.length ∧ e = .returned (.tuple #[.slice none 0 0, errA E (some 1)])))
theorem goI_in : ∀ (l : List It) (seen : List (List UInt8)) {g : Nat}, goI seen l = some g → g ∈ LA
  | [], _, _, h => by cases h
  | x :: r, seen, g, h => by
    unfold goI at h
    unfold LA
    split at h
    · injection h with h; subst h; simp
    · split at h
      · injection h with h; subst h; simp
      · split at h
        · injection h with h; subst h; simp
        · exact goI_in r _ h
theorem faultI_in {l : List It} {g : Nat} (h : faultI l = some g) : g ∈ LA := by
  unfold faultI at h
  split at h
  · injection h with h; subst h; unfold LA; simp
  · exact goI_in l [] h
end Go.Proofs.YtmoeoomlggjaaaaGreatDoor
