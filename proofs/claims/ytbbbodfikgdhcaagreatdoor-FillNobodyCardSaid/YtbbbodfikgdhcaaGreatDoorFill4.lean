/- Contracts of a pass's steps where nothing waits: what waits, and the profile, are copied; nothing is planned. -/
import Derived.Test.YtbbbodfikgdhcaaGreatDoorFill3
namespace Go.Proofs.YtbbbodfikgdhcaaGreatDoor
open Go Go.RowKit

theorem FlAt.off {w : World} {L : Locs} {s : St} {b : Nat} {f : Fl} (x : FlAt w b f) (hc : CoreAt w L s) : ¬ L.foot b := hc.off x (by decide)

theorem flcopyJ (b : Nat) (f : Fl) (L : Locs) (s : St) (w : World) (h : FlAt w b f) (hc : CoreAt w L s) (hs : f.stage = 1) (hn : s.jobs.length ≤ 1048576) (h0 : inStates s.jobs [1] = []) :
    Calls Tryz.prog 81 #[.pointer (some ⟨b, 0, none⟩), .pointer (some ⟨L.c, 0, none⟩)] w fun e w' => e = .returned (.tuple #[]) ∧ FlAt w' b { f with items := .slice none 0 0, stage := 2 } ∧ Fr (One b) w w' := by
  obtain ⟨pl, who, s', d, st, it, ve, ch, at_, ha, ta, sl⟩ := f
  obtain rfl : st = 1 := hs
  obtain ⟨c0, c1, c2, c3, c4, c5, c6, c7, c8, c9, c10, c11⟩ := h.facts
  obtain ⟨d0, d1, d2, d3, hz⟩ := hc.cells
  have H := Lib.hid h
  have Hc := Lib.hid hc
  have H0 := Lib.hid h0
  clear h hc h0
  go_enter Tryz.func81, Tryz.ntmps81
  go_wp2_with fail
  refine (none_no L s _ Hc.out).mono ?_
  rintro e w1 ⟨rfl, rfl⟩
  go_wp2_with fail
  refine (waiting0 L.jb L.v s.jobs s.live _ Hc.out.jobs hn H0.out).mono ?_
  rintro e w1 ⟨ao, cap, rfl, hf1⟩
  have h1 := H.out.fr hf1 id
  obtain ⟨k0, k1, k2, k3, k4, k5, k6, k7, k8, k9, k10, k11⟩ := h1.facts
  have HF1 := Lib.hid hf1
  have H1 := Lib.hid h1
  clear c0 c1 c2 c3 c4 c5 c6 c7 c8 c9 c10 hf1 h1 k0 k1 k2 k3 k6 k7 k8 k9
  go_wp2_with fail
  refine (items0 ao cap _).mono ?_
  rintro e w2 ⟨rfl, rfl⟩
  go_wp2_with fail
  refine bodyPost_ret (results_none rfl _ _ _) rfl ?_
  refine ⟨rfl, Blk.cast (Blk.set_ (Blk.set_ H1.out 5 _) 4 _) (by kernel_rfl), ?_⟩
  exact HF1.out.noThen (((Fr.refl (One b) _).set1 _ _).set1 _ _)

/-- Behind the profile's copy: the pass has a planner of no items. -/
structure CopyTo (b : Nat) (f : Fl) (s : St) (w w' : World) : Prop where
  ex : ∃ q p' g' ao cap, FlAt w' b { f with pl := .pointer (some ⟨q, 0, none⟩), ver := s.ver, stage := 5 } ∧ PlanAt w' q p' (.slice ao 0 cap) 0 (.slice none 0 0) ∧ ProfAt w' p' g' s.steps s.ver ∧ w.heap.size ≤ q ∧ w.heap.size ≤ p' ∧ w.heap.size ≤ g'

theorem flcopyP (b : Nat) (f : Fl) (L : Locs) (s : St) (w : World) (h : FlAt w b f) (hc : CoreAt w L s) (hs : f.stage = 4) (hok : POk s.steps) (hi : f.items = .slice none 0 0) (hd : 1 ≤ f.depth ∧ f.depth ≤ 64) :
    Calls Tryz.prog 81 #[.pointer (some ⟨b, 0, none⟩), .pointer (some ⟨L.c, 0, none⟩)] w fun e w' => e = .returned (.tuple #[]) ∧ CopyTo b f s w w' ∧ Fr (One b) w w' := by
  obtain ⟨pl, who, s', d, st, it, ve, ch, at_, ha, ta, sl⟩ := f
  obtain rfl : st = 4 := hs
  obtain rfl : it = .slice none 0 0 := hi
  obtain ⟨c0, c1, c2, c3, c4, c5, c6, c7, c8, c9, c10, c11⟩ := h.facts
  obtain ⟨d0, d1, d2, d3, hz⟩ := hc.cells
  have hbc : b ≠ L.c := fun e => h.off hc (.inl e)
  have H := Lib.hid h
  have Hc := Lib.hid hc
  have Hok := Lib.hid hok
  have Hd := Lib.hid hd
  have hcb : L.c ≠ b := fun e => hbc e.symm
  clear h hc hok hd
  go_enter Tryz.func81, Tryz.ntmps81
  go_wp2_with fail
  refine (none_no L s _ Hc.out).mono ?_
  rintro e w1 ⟨rfl, rfl⟩
  go_wp2_with fail
  refine (pversion L.pb L.g s.steps s.ver _ Hc.out.prof Hok.out).mono ?_
  rintro e w1 ⟨rfl, rfl⟩
  go_wp2_with fail
  have hA : FlAt (w.setCell ⟨b, 6, none⟩ (.int .i64 s.ver)) b ⟨pl, who, s', d, 4, .slice none 0 0, s.ver, ch, at_, ha, ta, sl⟩ := Blk.cast (Blk.set_ H.out 6 _) (by kernel_rfl)
  have hfA : Fr (One b) w (w.setCell ⟨b, 6, none⟩ (.int .i64 s.ver)) := (Fr.refl (One b) w).set1 _ _
  have hcA := Hc.out.fr hfA (fun k hk e => H.out.off Hc.out (e ▸ hk))
  have HFA := Lib.hid hfA
  have HcA := Lib.hid hcA
  have HA := Lib.hid hA
  clear hA hfA hcA c0 c1 c2 c3 c4 c5 c6 c7 c8 c9 c10 c11 d0 d1 d2 d3 hz H Hc
  generalize w.setCell ⟨b, 6, none⟩ (.int .i64 s.ver) = wA at *
  obtain ⟨c0, c1, c2, c3, c4, c5, c6, c7, c8, c9, c10, c11⟩ := HA.out.facts
  dsimp only at c0 c3 c4 c5
  obtain ⟨d0, d1, d2, d3, hz⟩ := HcA.out.cells
  clear c1 c2 c6 c7 c8 c9 d0 d1 d3
  go_region_held3 (fun w' => w'.cell? ⟨L.c, 2, none⟩ = some (.pointer (some ⟨L.pb, 0, none⟩)) ∧ w'.cell? ⟨b, 3, none⟩ = some (.int .i64 d) ∧ w'.cell? ⟨b, 5, none⟩ = some (.slice none 0 0)) (go_keep)
    (first
      | (go_at_call 100; refine (planNew0 L.pb L.g s.steps s.ver d Hd.out _ (HcA.out.prof.fr (F := No) ((Fr.refl No _).drew) id id) Hok.out).mono ?_; rintro e w2 ⟨q, p', g', ao, cap, rfl, hpl, hpr, hq1, hq2, hq3, hf2⟩
         obtain ⟨q1, q2, q3⟩ := ownNo HA.out.drew hf2; clear q1; have m0 := (hf2.cell (p := ⟨b, 0, none⟩) c11 id).trans c0; have m3 := (hf2.cell (p := ⟨b, 3, none⟩) c11 id).trans c3; have m5 := (hf2.cell (p := ⟨b, 5, none⟩) c11 id).trans c5; have k2 := (hf2.cell (p := ⟨L.c, 2, none⟩) hz id).trans d2; have hA2 := Blk.fr (w := wA.drew) HA.out hf2 id; have n3 : (w2.setCell ⟨b, 0, none⟩ (.pointer (some ⟨q, 0, none⟩))).cell? ⟨b, 3, none⟩ = some (.int .i64 d) := (Blk.set_ hA2 0 _).cell 3; have n5 : (w2.setCell ⟨b, 0, none⟩ (.pointer (some ⟨q, 0, none⟩))).cell? ⟨b, 5, none⟩ = some (.slice none 0 0) := (Blk.set_ hA2 0 _).cell 5; have n4 : (w2.setCell ⟨b, 0, none⟩ (.pointer (some ⟨q, 0, none⟩))).cell? ⟨b, 4, none⟩ = some (.int .i64 4) := (Blk.set_ hA2 0 _).cell 4))
  rename_i hHeld
  clear hHeld
  have hB : FlAt (w2.setCell ⟨b, 0, none⟩ (.pointer (some ⟨q, 0, none⟩))) b ⟨.pointer (some ⟨q, 0, none⟩), who, s', d, 4, .slice none 0 0, s.ver, ch, at_, ha, ta, sl⟩ := Blk.cast (Blk.set_ hA2 0 _) (by kernel_rfl)
  have hs2 := hf2.size
  have hsA := HFA.out.size
  have hD : wA.drew.heap.size = wA.heap.size := rfl
  rw [hD] at hs2 hq1 hq2 hq3
  have nb : b ≠ q := by omega
  have np : b ≠ p' := by omega
  have ng : b ≠ g' := by omega
  have HB := Lib.hid (hB.stage_ 5)
  have hFB : Fr (One b) w (w2.setCell ⟨b, 0, none⟩ (.pointer (some ⟨q, 0, none⟩))) := ((HFA.out.thenNo ((Fr.refl No wA).drew)).thenNo hf2).set1 _ _
  have hpl2 := hpl.fr (((Fr.refl (One b) w2).set1 0 (.pointer (some ⟨q, 0, none⟩))).set1 4 (.int .i64 5)) (fun e => nb e.symm)
  have hpr2 := hpr.fr (((Fr.refl (One b) w2).set1 0 (.pointer (some ⟨q, 0, none⟩))).set1 4 (.int .i64 5)) (fun e => np e.symm) (fun e => ng e.symm)
  have HPL := Lib.hid hpl2
  have HPR := Lib.hid hpr2
  have HFB := Lib.hid (hFB.set1 4 (.int .i64 5))
  clear hpl hpr hpl2 hpr2 hFB hB hA2 hf2
  go_wp2_with fail
  go_end0
  exact ⟨rfl, ⟨⟨q, p', g', ao, cap, HB.out, HPL.out, HPR.out, by omega, by omega, by omega⟩⟩, HFB.out⟩
end Go.Proofs.YtbbbodfikgdhcaaGreatDoor
