/- Contracts of a pass's steps where nothing waits: planning, and each step. -/
import Derived.Test.YtbbbodfikgdhcaaGreatDoorFill4
namespace Go.Proofs.YtbbbodfikgdhcaaGreatDoor
open Go Go.RowKit

theorem flnext0 (b : Nat) (f : Fl) (ao : Option Addr) (cap : Nat) (w : World) (h : FlAt w b f) (hc : f.choices = .slice ao 0 cap) (ha : f.at_ = 0) :
    Calls Tryz.prog 129 #[.pointer (some ⟨b, 0, none⟩)] w fun e w' => e = .returned (.tuple #[]) ∧ FlAt w' b { f with stage := 8 } ∧ Fr (One b) w w' := by
  obtain ⟨pl, who, s', d, st, it, ve, ch, at_, hnd, ta, sl⟩ := f
  obtain rfl : ch = .slice ao 0 cap := hc
  obtain rfl : at_ = 0 := ha
  obtain ⟨c0, c1, c2, c3, c4, c5, c6, c7, c8, c9, c10, c11⟩ := h.facts
  dsimp only at c0 c1 c2 c3 c4 c5 c6 c7 c8 c9
  have H := Lib.hid h
  clear h
  go_enter Tryz.func129, Tryz.ntmps129
  go_wp2_with fail
  go_quiet (fail)
  go_wp2_with fail
  refine bodyPost_ret (results_none rfl _ _ _) rfl ?_
  refine ⟨rfl, Blk.cast (Blk.set_ (Blk.drewN H.out _) 4 _) (by kernel_rfl), ?_⟩
  exact ((Fr.refl (One b) w).drewN _).set1 _ _

/-- Behind a plan of nothing: the pass is over. -/
structure PlanTo (b : Nat) (f : Fl) (w' : World) : Prop where
  ex : ∃ ch, FlAt w' b { f with choices := ch, stage := 8 }

theorem flplan0 (b q p : Nat) (f : Fl) (ao : Option Addr) (cap : Nat) (w : World) (h : FlAt w b f) (hp : PlanAt w q p (.slice ao 0 cap) 0 (.slice none 0 0)) (hpl : f.pl = .pointer (some ⟨q, 0, none⟩)) (hs : 1 ≤ f.some_) (ha : f.at_ = 0) :
    Calls Tryz.prog 83 #[.pointer (some ⟨b, 0, none⟩)] w fun e w' => e = .returned (.tuple #[]) ∧ PlanTo b f w' ∧ Fr (One b) w w' := by
  obtain ⟨pl, who, s', d, st, it, ve, ch, at_, hnd, ta, sl⟩ := f
  obtain rfl : pl = .pointer (some ⟨q, 0, none⟩) := hpl
  obtain rfl : at_ = 0 := ha
  obtain ⟨c0, c1, c2, c3, c4, c5, c6, c7, c8, c9, c10, c11⟩ := h.facts
  dsimp only at c0 c1 c2 c3 c4 c5 c6 c7 c8 c9
  have hbq : b ≠ q := Blk.ne_ h hp (by decide)
  have H := Lib.hid h
  have HP := Lib.hid hp
  have Hs := Lib.hid hs
  clear h hp hs
  go_enter Tryz.func83, Tryz.ntmps83
  go_wp2_with fail
  go_region_held3 (fun w' => w'.cell? ⟨b, 0, none⟩ = some (.pointer (some ⟨q, 0, none⟩)) ∧ w'.cell? ⟨b, 2, none⟩ = some (.int .i64 s')) (go_keep)
    (first
      | (go_at_call 101; refine (next0 q p ao cap _ s' Hs.out _ (HP.out.fr (F := No) ((Fr.refl No _).drew) id)).mono ?_; rintro e w2 ⟨rfl, hf2⟩; have m0 := (hf2.cell (p := ⟨b, 0, none⟩) c11 id).trans c0; have m2 := (hf2.cell (p := ⟨b, 2, none⟩) c11 id).trans c2))
  rename_i hHeld
  have hF2 : Fr No w w2 := ((Fr.refl No w).drew).then hf2
  have h2 := H.out.fr hF2 id
  have hp2 := HP.out.fr hF2 id
  have HF2 := Lib.hid hF2
  have H2 := Lib.hid h2
  have HP2 := Lib.hid hp2
  obtain ⟨c0, c1, c2, c3, c4, c5, c6, c7, c8, c9, c10, c11⟩ := h2.facts
  dsimp only at c0 c1 c2 c3 c4 c5 c6 c7 c8 c9
  clear hHeld hf2 hF2 h2 hp2 m0 m2
  go_wp2_with fail
  refine (left0 q p ao cap _ _ HP2.out).mono ?_
  rintro e w3 ⟨rfl, hf3⟩
  have h3 := H2.out.fr hf3 id
  have HF3 := Lib.hid (HF2.out.then hf3)
  have H3 := Lib.hid h3
  have HP3 := Lib.hid (HP2.out.fr hf3 id)
  obtain ⟨c0, c1, c2, c3, c4, c5, c6, c7, c8, c9, c10, c11⟩ := h3.facts
  dsimp only at c0 c1 c2 c3 c4 c5 c6 c7 c8 c9
  clear hf3 h3
  go_wp2_with fail
  refine (choices0 q p _ _ _ HP3.out).mono ?_
  rintro e w4 ⟨ao4, cap4, rfl, hf4⟩
  have h4 := H3.out.fr hf4 id
  have HF4 := Lib.hid (HF3.out.then hf4)
  have H4 : Hid (FlAt ((w4.setCell ⟨b, 7, none⟩ (.slice ao4 0 cap4)).setCell ⟨b, 4, none⟩ (.int .i64 7)) b ⟨.pointer (some ⟨q, 0, none⟩), who, s', d, 7, it, ve, .slice ao4 0 cap4, 0, hnd, ta, sl⟩) := Lib.hid (Blk.cast (Blk.set_ (Blk.set_ h4 7 _) 4 _) (by kernel_rfl))
  obtain ⟨c0, c1, c2, c3, c4, c5, c6, c7, c8, c9, c10, c11⟩ := h4.facts
  dsimp only at c0 c1 c2 c3 c4 c5 c6 c7 c8 c9
  clear hf4 h4
  go_wp2_with fail
  refine (flnext0 b _ ao4 cap4 _ H4.out rfl rfl).mono ?_
  rintro e w5 ⟨rfl, h5, hf5⟩
  have H5 := Lib.hid h5
  clear h5
  go_wp2_with fail
  first | go_end0 | refine bodyPost_ret (results_none rfl _ _ _) rfl ?_
  exact ⟨rfl, ⟨_, H5.out⟩, (HF4.out.noThen (((Fr.refl (One b) _).set1 _ _).set1 _ _)).then hf5⟩
end Go.Proofs.YtbbbodfikgdhcaaGreatDoor
