/- The scheduler: a request for the load, done whole. -/
import Derived.Test.YtbbbodfikgdhcaaGreatDoorJobs3
namespace Go.Proofs.YtbbbodfikgdhcaaGreatDoor
open Go Go.RowKit

theorem serve_load (b : Nat) (x : Wk) (L : Locs) (s : St) (w : World) (h : WkAt w b x) (hc : CoreAt w L s) (hn : s.jobs.length ≤ 1048576) (hk : x.req.kind = 11) (hb : ¬ L.foot b) :
    Calls Tryz.prog 110 #[.pointer (some ⟨b, 0, none⟩), .pointer (some ⟨L.c, 0, none⟩)] w fun e w' => e = .returned (.tuple #[]) ∧ WkTo b L w { x with rep := s.load, done := true } s w' := by
  have c0 : w.cell? ⟨b, 0, none⟩ = some (.int .i64 11) := by rw [h.at_, ← hk]; rfl
  have H := Lib.hid h
  have Hc := Lib.hid hc
  have Hn := Lib.hid hn
  have Hk := Lib.hid hk
  have Hb := Lib.hid hb
  clear h hc hn hk hb
  go_enter Tryz.func110, Tryz.ntmps110
  go_wp2_with fail
  refine (count_load b x L s _ H.out Hc.out Hn.out Hk.out Hb.out).mono ?_
  rintro e w1 ⟨rfl, hw, hf⟩
  go_wp2_with fail
  go_end0
  exact ⟨rfl, hw, ⟨L, Hc.out.fr hf (fun k hk e => Hb.out (e ▸ hk)), rfl, fun k hk => .inl hk⟩, hf.mono fun i _ e => .inl e⟩

/-- A scheduler over a core. -/
def SchedAt (w : World) (b c : Nat) : Prop := Blk w b 74 #[.pointer (some ⟨c, 0, none⟩)]
theorem SchedAt.cell {w : World} {b c : Nat} (h : SchedAt w b c) : w.cell? ⟨b, 0, none⟩ = some (.pointer (some ⟨c, 0, none⟩)) := by unfold SchedAt at h; rw [h.cell]; rfl
theorem SchedAt.fr {F : Nat → Prop} {w w' : World} {b c : Nat} (h : SchedAt w b c) (hf : Fr F w w') (hn : ¬ F b) : SchedAt w' b c := Blk.fr h hf hn

/-- Behind what turned a core: the core, and what was written. -/
structure CoreTo (L : Locs) (w : World) (s' : St) (w' : World) : Prop where
  core : ∃ L', CoreAt w' L' s' ∧ L'.c = L.c ∧ (∀ k, L'.foot k → L.foot k ∨ w.heap.size ≤ k)
  fr : Fr L.foot w w'

theorem seqNew (n : Nat) (h1 : 1 ≤ n) (h2 : n ≤ 64) (w : World) : Calls Tryz.prog 93 #[.int .i64 n] w fun e w' => ∃ b L, e = .returned (.tuple #[.pointer (some ⟨b, 0, none⟩), .int .i64 0]) ∧ SchedAt w' b L.c ∧ CoreAt w' L (.new n) ∧ (∀ k, L.foot k → w.heap.size ≤ k) ∧ w.heap.size ≤ b ∧ Fr No w w' := by
  go_enter Tryz.func93, Tryz.ntmps93
  go_wp2_with fail
  refine (coreNew n h1 h2 _).mono ?_
  rintro e w1 ⟨L, rfl, hc, hL, hf1⟩
  have Hc := Lib.hid hc
  have HL := Lib.hid hL
  clear hc hL
  have z1 := hf1.size
  go_wp2_with fail
  go_ret2
  exact ⟨_, L, rfl, Blk.new _ _ _, Hc.out.frNo ((Fr.refl No w1).alloc _), HL.out, z1, hf1.alloc _⟩

theorem snone_no (b : Nat) (L : Locs) (s : St) (w : World) (h : SchedAt w b L.c) (hc : CoreAt w L s) : Calls Tryz.prog 85 #[.pointer (some ⟨b, 0, none⟩)] w fun e w' => e = .returned (.bool false) ∧ w = w' := by
  have c0 := h.cell
  have Hc := Lib.hid hc
  clear h hc
  go_enter Tryz.func85, Tryz.ntmps85
  go_wp2_with fail
  refine (none_no L s _ Hc.out).mono ?_
  rintro e w1 ⟨rfl, rfl⟩
  go_wp2_with fail
  go_ret
  exact ⟨rfl, rfl⟩

/-- A work that is over behind one part more. -/
theorem run_one (b k : Nat) (x' : Wk) (L : Locs) (s' : St) (w : World) (h : SchedAt w b L.c) (hd : x'.done = true)
    (hs : Calls Tryz.prog 59 #[.pointer (some ⟨k, 0, none⟩), .pointer (some ⟨L.c, 0, none⟩)] w fun e w' => e = .returned (.bool x'.done) ∧ WkTo k L w x' s' w') :
    Calls Tryz.prog 106 #[.pointer (some ⟨b, 0, none⟩), .pointer (some ⟨k, 0, none⟩)] w fun e w' => e = .returned (.tuple #[]) ∧ WkTo k L w x' s' w' := by
  have c0 := h.cell
  rw [hd] at hs
  have Hs := Lib.hid hs
  clear h hs hd
  go_enter Tryz.func106, Tryz.ntmps106
  go_wp2_with fail
  refine wp_loop_rounds 1 ?_
  rw [rounds_succ]
  go_wp2_with fail
  refine Hs.out.mono ?_
  rintro e w1 ⟨rfl, hw⟩
  have Hw := Lib.hid hw
  clear hw
  go_wp2_with fail
  go_end0
  exact ⟨rfl, Hw.out⟩
end Go.Proofs.YtbbbodfikgdhcaaGreatDoor
