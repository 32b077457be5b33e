/- Chapter 18's example: a pass for which nothing waits takes its seven steps. -/
import Derived.Test.YtbbbodfikgdhcaaGreatDoorFill9
import Derived.Test.YtbbbodfikgdhcaaGreatDoorOp5
namespace Go.Proofs.YtbbbodfikgdhcaaGreatDoor
open Go Go.RowKit

set_option maxHeartbeats 2000000 in
set_option maxRecDepth 100000 in
theorem awake18 (w : World) : Calls Tryz.prog 32 #[] w fun e w' => e = .returned (.bool true) ∧ Fr No w w' := by
  go_enter Tryz.func32, Tryz.ntmps32
  go_wp2_with fail
  refine (coreNew 3 (by decide) (by decide) _).mono ?_
  rintro e w1 ⟨L, rfl, hc, hL, hf1⟩
  have HC := Lib.hid hc
  have HL := Lib.hid hL
  have HF1 := Lib.hid hf1
  clear hc hL hf1
  go_wp2_with fail
  refine (flNew 1 1 9 (by decide) (by decide) (by decide) (by decide) (by decide) _).mono ?_
  rintro e w2 ⟨b, rfl, hfl, hzb, hf2⟩
  have hE : FEnv (w2.alloc (.cells #[.int .i64 0, .int .i64 0, .int .i64 0, .int .i64 0] 29)) L (.new 3) w2.heap.size ⟨0, 0, 0, 0⟩ b (.new 1 1 9) :=
    ⟨(HC.out.frNo hf2).frNo ((Fr.refl No w2).alloc _), Blk.new w2 29 #[.int .i64 0, .int .i64 0, .int .i64 0, .int .i64 0], hfl.fr ((Fr.refl No w2).alloc _) id⟩
  have z1 := HF1.out.size
  have z2 := hf2.size
  have hF0 := Lib.hid ((HF1.out.then hf2).alloc (.cells #[.int .i64 0, .int .i64 0, .int .i64 0, .int .i64 0] 29))
  have hE0 := Lib.hid hE
  have hBA : ∀ i, BA b w2.heap.size i → w.heap.size ≤ i := by rintro i (rfl | rfl) <;> omega
  have HBA := Lib.hid hBA
  clear hfl hf2 hE hBA
  go_wp2_with fail
  refine wp_loop_rounds 8 ?_

  rw [rounds_succ]
  go_wp2_with fail
  have hst0 := flstage b _ _ hE0.out.fl
  change Calls Tryz.prog 27 _ _ (fun e w' => e = .returned (.int .i64 0) ∧ _ = w') at hst0
  refine hst0.mono ?_
  rintro e v0 ⟨rfl, rfl⟩
  clear hst0
  go_wp2_with fail
  refine (fe0 hE0.out rfl (by decide) (by decide) (by decide)).mono ?_
  rintro e w3 ⟨rfl, hEn, hfn⟩
  have hE1 := Lib.hid hEn
  have hF1 := Lib.hid (hF0.out.trans hfn (fun _ x => x) (fun i _ hi => by have := HBA.out i hi; omega))
  clear hEn hfn
  go_wp2_with fail
  rw [rounds_succ]
  go_wp2_with fail
  have hst1 := flstage b _ _ hE1.out.fl
  change Calls Tryz.prog 27 _ _ (fun e w' => e = .returned (.int .i64 1) ∧ _ = w') at hst1
  refine hst1.mono ?_
  rintro e v1 ⟨rfl, rfl⟩
  clear hst1
  go_wp2_with fail
  refine (fe1 hE1.out rfl (by simp [St.new]) rfl).mono ?_
  rintro e w4 ⟨rfl, hEn, hfn⟩
  have hE2 := Lib.hid hEn
  have hF2 := Lib.hid (hF1.out.trans hfn (fun _ x => x) (fun i _ hi => by have := HBA.out i hi; omega))
  clear hEn hfn
  go_wp2_with fail
  rw [rounds_succ]
  go_wp2_with fail
  have hst2 := flstage b _ _ hE2.out.fl
  change Calls Tryz.prog 27 _ _ (fun e w' => e = .returned (.int .i64 2) ∧ _ = w') at hst2
  refine hst2.mono ?_
  rintro e v2 ⟨rfl, rfl⟩
  clear hst2
  go_wp2_with fail
  refine (fe2 (fun _ => True) trivial (fun _ _ _ _ => trivial) hE2.out rfl (by decide) rfl).mono ?_
  rintro e w5 ⟨rfl, hEn, _, hfn⟩
  have hE3 := Lib.hid hEn
  have hF3 := Lib.hid (hF2.out.trans hfn (fun _ x => x) (fun i _ hi => by have := HBA.out i hi; omega))
  clear hEn hfn
  go_wp2_with fail
  rw [rounds_succ]
  go_wp2_with fail
  have hst3 := flstage b _ _ hE3.out.fl
  change Calls Tryz.prog 27 _ _ (fun e w' => e = .returned (.int .i64 3) ∧ _ = w') at hst3
  refine hst3.mono ?_
  rintro e v3 ⟨rfl, rfl⟩
  clear hst3
  go_wp2_with fail
  refine (fe3 hE3.out rfl (by decide) (by decide) (by decide)).mono ?_
  rintro e w6 ⟨rfl, hEn, hfn⟩
  have hE4 := Lib.hid hEn
  have hF4 := Lib.hid (hF3.out.trans hfn (fun _ x => x) (fun i _ hi => by have := HBA.out i hi; omega))
  clear hEn hfn
  go_wp2_with fail
  rw [rounds_succ]
  go_wp2_with fail
  have hst4 := flstage b _ _ hE4.out.fl
  change Calls Tryz.prog 27 _ _ (fun e w' => e = .returned (.int .i64 4) ∧ _ = w') at hst4
  refine hst4.mono ?_
  rintro e v4 ⟨rfl, rfl⟩
  clear hst4
  go_wp2_with fail
  refine (fe4 hE4.out rfl (POk.new 3 (by decide)) rfl ⟨by decide, by decide⟩).mono ?_
  rintro e w7 ⟨rfl, ⟨q, p', ao, cap, hEn, hpl, hzq⟩, hfn⟩
  have hnq : ¬ BA b w2.heap.size q := by
    rintro (h | h)
    · exact Blk.ne_ hEn.fl hpl (by decide) h.symm
    · exact Blk.ne_ hEn.lock hpl (by decide) h.symm
  have Hnq := Lib.hid hnq
  have HPL := Lib.hid hpl
  clear hnq hpl hzq
  have hE5 := Lib.hid hEn
  have hF5 := Lib.hid (hF4.out.trans hfn (fun _ x => x) (fun i _ hi => by have := HBA.out i hi; omega))
  clear hEn hfn
  go_wp2_with fail
  rw [rounds_succ]
  go_wp2_with fail
  have hst5 := flstage b _ _ hE5.out.fl
  change Calls Tryz.prog 27 _ _ (fun e w' => e = .returned (.int .i64 5) ∧ _ = w') at hst5
  refine hst5.mono ?_
  rintro e v5 ⟨rfl, rfl⟩
  clear hst5
  go_wp2_with fail
  refine (fe5 (fun w => PlanAt w q p' (.slice ao 0 cap) 0 (.slice none 0 0)) HPL.out (fun w0 w1 h0 hb => (hb q (Blk.lt h0) Hnq.out).trans h0) hE5.out rfl (by show (1 : Int) ≤ 1; decide) rfl).mono ?_
  rintro e w8 ⟨rfl, hEn, hpl6, hfn⟩
  have HPL6 := Lib.hid hpl6
  clear hpl6
  have hE6 := Lib.hid hEn
  have hF6 := Lib.hid (hF5.out.trans hfn (fun _ x => x) (fun i _ hi => by have := HBA.out i hi; omega))
  clear hEn hfn
  go_wp2_with fail
  rw [rounds_succ]
  go_wp2_with fail
  have hst6 := flstage b _ _ hE6.out.fl
  change Calls Tryz.prog 27 _ _ (fun e w' => e = .returned (.int .i64 6) ∧ _ = w') at hst6
  refine hst6.mono ?_
  rintro e v6 ⟨rfl, rfl⟩
  clear hst6
  go_wp2_with fail
  refine (fe6 q p' ao cap hE6.out rfl HPL6.out rfl (by show (1 : Int) ≤ 1; decide) rfl).mono ?_
  rintro e w9 ⟨rfl, ⟨ch, hEn⟩, hfn⟩
  have hE7 := Lib.hid hEn
  have hF7 := Lib.hid (hF6.out.trans hfn (fun _ x => x) (fun i _ hi => by have := HBA.out i hi; omega))
  clear hEn hfn
  go_wp2_with fail
  rw [rounds_succ]
  go_wp2_with fail
  have hst7 := flstage b _ _ hE7.out.fl
  change Calls Tryz.prog 27 _ _ (fun e w' => e = .returned (.int .i64 8) ∧ _ = w') at hst7
  refine hst7.mono ?_
  rintro e v7 ⟨rfl, rfl⟩
  clear hst7
  go_wp2_with fail
  refine (lidle_any _ _ _ hE7.out.lock).mono ?_
  rintro e v8 ⟨rfl, rfl⟩
  go_wp2_with fail
  go_ret
  exact ⟨rfl, hF7.out⟩
end Go.Proofs.YtbbbodfikgdhcaaGreatDoor
