/- Amendment.Then: the walk. -/
import Derived.Test.YtmoeoomlggjaaaaGreatDoorAmK
namespace Go.Proofs.YtmoeoomlggjaaaaGreatDoor
open Go.RowKit Go.Maps

/-- what Then answers -/
structure ThenR (E : Nat → Addr) (w : World) (h : Am) (B : Nat) (e : Ending) (w' : World) : Prop where
  ex : ∃ b Mb N, AmAt w' b Mb h N ∧ w.heap.size ≤ b ∧ w.heap.size ≤ Mb ∧ N ≤ B ∧ ((N ≤ 500 ∧ e = .returned (.tuple #[.pointer (some ⟨b, 0, none⟩), .nilIface])) ∨ (500 < N ∧ e = .returned (.tuple #[.pointer none, errA E (some 1)])))

set_option maxRecDepth 100000 in
set_option maxHeartbeats 4000000 in
theorem then_any (a M N a' M' N' : Nat) (f f' : Am) (E : Nat → Addr) (w : World) (h : AmAt w a M f N) (h' : AmAt w a' M' f' N') (hN : N + N' ≤ 100000) (hE : Env LA E w) :
    Calls Tryz.prog 27 #[.pointer (some ⟨a, 0, none⟩), .pointer (some ⟨a', 0, none⟩)] w fun e w' => ThenR E w (over f f') (N + N') e w' ∧ Below w.heap.size w w' := by
  have H1 := Lib.hid h
  have H2 := Lib.hid h'
  have HE := Lib.hid hE
  obtain ⟨D, hown, hr, hz⟩ := h.own
  have hlt := hown.lt
  have HR := Lib.hid hr
  obtain ⟨es, clock, hb, F, hs, hD⟩ := hown
  have HN : Hid ((w.alloc (.map es clock)).ownsMap Tryz.prog 9 RV w.heap.size N D) := Lib.hid ⟨es, clock, blk_new rfl, F, hs, hD⟩
  have BX := Lib.hid h.box
  have BY := Lib.hid h'.box
  have cB := cellH BX
  have cY := cellH BY
  have l1 := h.lt
  have l2 := h'.lt
  have HCL := Lib.hid (clone_is M es clock w hb)
  clear h h' hE hr F hs hD hb
  go_enter Tryz.func27, Tryz.ntmps27
  go_wp2_with fail
  refine HCL.out.mono ?_
  rintro e w1 ⟨rfl, rfl⟩
  go_wp2_with fail
  obtain ⟨u, hu⟩ : ∃ u, (w.alloc (.map es clock)).alloc (.cells #[.map (some w.heap.size)] 81) = u := ⟨_, rfl⟩
  have HBU : Hid (Below w.heap.size w u) := Lib.hid (by rw [← hu]; (repeat' (first | with_reducible exact Below.refl _ _ | with_reducible assumption | with_reducible refine Below.drew ?_ | with_reducible refine below_drewN ?_ _ | with_reducible refine Below.setCell ?_ ?_ _ | with_reducible refine Below.alloc ?_ ?_ _ | omega | (simp; done) | (simp; omega))))
  have BU : Hid (u.heap[w.heap.size + 1]? = some (.cells #[.map (some w.heap.size)] 81 (0, 0))) := Lib.hid (by rw [← hu]; exact blk_new (by simp))
  have zu : u.heap.size = w.heap.size + 2 := by rw [← hu]; simp
  have HNU : Hid (u.ownsMap Tryz.prog 9 RV w.heap.size N D) := Lib.hid (by rw [← hu]; exact HN.out.alloc _)
  rw [hu]
  clear hu HN HCL cB cY
  have BYU := keepH HBU.out BY.out
  have hbd : Below u.heap.size u u.drew := (Below.refl _ _).drew
  have x0 : u.drew.cell? ⟨w.heap.size + 1, 0, none⟩ = some (.map (some w.heap.size)) := cellH BU 0
  have x1 : u.drew.cell? ⟨a', 0, none⟩ = some (.map (some M')) := cellH BYU 0
  obtain ⟨D2, ho2, hr2, hz2⟩ := (H2.out.step HBU.out).own
  have HO2 := Lib.hid (own_step ho2 hbd)
  have HR2 := Lib.hid (hr2.step hbd)
  have HO1 := Lib.hid (own_step HNU.out hbd)
  have HR1 := Lib.hid ((HR.out.step HBU.out).step hbd)
  have HCP := Lib.hid (copyM_any w.heap.size M' N N' D D2 f f' u.drew HO1.out HR1.out HO2.out HR2.out hz2 (by omega) hN)
  have HMU := own_isMap HO1.out
  clear ho2 hr2
  go_region_held3 (fun w' => w'.cell? ⟨w.heap.size + 1, 0, none⟩ = some (.map (some w.heap.size)) ∧ w'.cell? ⟨a', 0, none⟩ = some (.map (some M'))) (first | with_reducible exact ⟨x0, x1⟩ | with_reducible exact ⟨d0, d1⟩)
    (first | (go_at_call 56; refine HCP.out.mono ?_; rintro e w5 ⟨rfl, ⟨n5, D5, ho5, hr5, hn5⟩, hol⟩; have HO5 := Lib.hid ho5; have HR5 := Lib.hid hr5; have HOL := Lib.hid hol; have d0 : w5.cell? ⟨w.heap.size + 1, 0, none⟩ = some (.map (some w.heap.size)) := cell_only x0 hol HMU; have d1 : w5.cell? ⟨a', 0, none⟩ = some (.map (some M')) := cell_only x1 hol HMU; clear ho5 hr5 hol))
  have HA : Hid (AmAt w5 (w.heap.size + 1) w.heap.size (over f f') (Maps.size D5)) := Lib.hid ⟨heap_only (keepH hbd BU.out).out HOL.out HMU, D5, own_tight HO5.out, HR5.out, rfl⟩
  have hsz := HO5.out.size_le
  have hw5 : Below w.heap.size w w5 := HBU.out.drew.trans (HOL.out.below (by have := hbd.size; omega) (fun k hk => by simp at hk; omega))
  have HSZ := Lib.hid hsz
  obtain ⟨N5, hN5⟩ : ∃ n, Maps.size D5 = n := ⟨_, rfl⟩
  rw [hN5] at HA HSZ
  have z5 := hw5.size
  clear hsz hN5 HCP x0 x1 d0 d1 HO5 HR5 HOL
  by_cases h5 : N5 ≤ 500
  · go_wp2_with fail
    refine (few_ok _ _ N5 _ w5 HA.out h5).mono ?_
    rintro e w6 ⟨rfl, hb6⟩
    have HA6 := Lib.hid (HA.out.step hb6)
    have hw6 := stepH hw5 hb6
    go_wp2_with fail
    go_ret2
    exact ⟨⟨_, _, N5, HA6.out, by omega, Nat.le_refl _, by have := HSZ.out; omega, .inl ⟨h5, rfl⟩⟩, hw6⟩
  · go_wp2_with fail
    refine (few_many _ _ N5 _ E w5 HA.out (by omega) (HE.out.below hw5)).mono ?_
    rintro e w6 ⟨rfl, hb6⟩
    have HA6 := Lib.hid (HA.out.step hb6)
    have hw6 := stepH hw5 hb6
    have HR : Hid (ThenR E w (over f f') (N + N') (.returned (.tuple #[.pointer none, errA E (some 1)])) w6) := Lib.hid ⟨_, _, N5, HA6.out, by omega, Nat.le_refl _, by have := HSZ.out; omega, .inr ⟨by omega, rfl⟩⟩
    rw [show errA E (some 1) = .iface 184 (.pointer (some (E 1))) from rfl] at HR ⊢
    go_wp2_with fail
    go_ret2
    exact ⟨HR.out, hw6⟩
end Go.Proofs.YtmoeoomlggjaaaaGreatDoor
