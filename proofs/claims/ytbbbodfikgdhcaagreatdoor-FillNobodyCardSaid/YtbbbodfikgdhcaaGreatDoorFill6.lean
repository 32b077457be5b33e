/- A step of a pass, by its stage. -/
import Derived.Test.YtbbbodfikgdhcaaGreatDoorFill5
namespace Go.Proofs.YtbbbodfikgdhcaaGreatDoor
open Go Go.RowKit

/-- Behind a step: what its part left, then the answer's own cells. -/
structure StepTo (P : World → Prop) (F : Nat → Prop) (w w' : World) : Prop where
  ex : ∃ w1, P w1 ∧ Fr F (w.alloc (.cells #[.int .i64 0, .int .i64 0] 44)) w1 ∧ Fr (One w.heap.size) w1 w'

theorem flstep0 (b : Nat) (f : Fl) (cv lv : Value) (w : World) (h : FlAt w b f) (hs : f.stage = 0) (P : World → Prop) (F : Nat → Prop) (hF : ¬ F w.heap.size)
    (hc : ∀ w0, w0 = w.alloc (.cells #[.int .i64 0, .int .i64 0] 44) → Calls Tryz.prog 80 #[.pointer (some ⟨b, 0, none⟩), lv] w0 fun e w' => e = .returned (.tuple #[]) ∧ P w' ∧ Fr F w0 w') :
    Calls Tryz.prog 25 #[.pointer (some ⟨b, 0, none⟩), cv, lv] w fun e w' => e = .returned (.tuple #[.agg #[.int .i64 0, .int .i64 0], .bool false, .bool false]) ∧ StepTo P F w w' := by
  have hst := flstage b f _ (h.fr (F := No) ((Fr.refl No w).alloc (.cells #[.int .i64 0, .int .i64 0] 44)) id)
  rw [hs] at hst
  have Hst := Lib.hid hst
  have Hc := Lib.hid (hc _ rfl)
  have HF := Lib.hid hF
  have HB := Lib.hid (Blk.new w 44 #[.int .i64 0, .int .i64 0])
  clear h hst hc hF hs
  go_enter Tryz.func25, Tryz.ntmps25
  go_wp2_with fail
  refine Hst.out.mono ?_
  rintro e w1 ⟨rfl, rfl⟩
  go_wp2_with fail
  refine Hc.out.mono ?_
  rintro e w1 ⟨rfl, hP, hf⟩
  obtain ⟨q1, q2, q3⟩ := own HB.out hf HF.out
  have HP := Lib.hid hP
  have Hf := Lib.hid hf
  clear hP hf
  go_wp2_with fail
  refine bodyPost_ret (by (simp [results, Tryz.results25, go_sem, *]; try rfl)) rfl ?_
  exact ⟨rfl, ⟨⟨w1, HP.out, Hf.out, ((Fr.refl (One w.heap.size) w1).set1 _ _).set1 _ _⟩⟩⟩

theorem flstep3 (b : Nat) (f : Fl) (cv lv : Value) (w : World) (h : FlAt w b f) (hs : f.stage = 3) (P : World → Prop) (F : Nat → Prop) (hF : ¬ F w.heap.size)
    (hc : ∀ w0, w0 = w.alloc (.cells #[.int .i64 0, .int .i64 0] 44) → Calls Tryz.prog 80 #[.pointer (some ⟨b, 0, none⟩), lv] w0 fun e w' => e = .returned (.tuple #[]) ∧ P w' ∧ Fr F w0 w') :
    Calls Tryz.prog 25 #[.pointer (some ⟨b, 0, none⟩), cv, lv] w fun e w' => e = .returned (.tuple #[.agg #[.int .i64 0, .int .i64 0], .bool false, .bool false]) ∧ StepTo P F w w' := by
  have hst := flstage b f _ (h.fr (F := No) ((Fr.refl No w).alloc (.cells #[.int .i64 0, .int .i64 0] 44)) id)
  rw [hs] at hst
  have Hst := Lib.hid hst
  have Hc := Lib.hid (hc _ rfl)
  have HF := Lib.hid hF
  have HB := Lib.hid (Blk.new w 44 #[.int .i64 0, .int .i64 0])
  clear h hst hc hF hs
  go_enter Tryz.func25, Tryz.ntmps25
  go_wp2_with fail
  refine Hst.out.mono ?_
  rintro e w1 ⟨rfl, rfl⟩
  go_wp2_with fail
  refine Hc.out.mono ?_
  rintro e w1 ⟨rfl, hP, hf⟩
  obtain ⟨q1, q2, q3⟩ := own HB.out hf HF.out
  have HP := Lib.hid hP
  have Hf := Lib.hid hf
  clear hP hf
  go_wp2_with fail
  refine bodyPost_ret (by (simp [results, Tryz.results25, go_sem, *]; try rfl)) rfl ?_
  exact ⟨rfl, ⟨⟨w1, HP.out, Hf.out, ((Fr.refl (One w.heap.size) w1).set1 _ _).set1 _ _⟩⟩⟩

theorem flstep1 (b : Nat) (f : Fl) (cv lv : Value) (w : World) (h : FlAt w b f) (hs : f.stage = 1) (P : World → Prop) (F : Nat → Prop) (hF : ¬ F w.heap.size)
    (hc : ∀ w0, w0 = w.alloc (.cells #[.int .i64 0, .int .i64 0] 44) → Calls Tryz.prog 81 #[.pointer (some ⟨b, 0, none⟩), cv] w0 fun e w' => e = .returned (.tuple #[]) ∧ P w' ∧ Fr F w0 w') :
    Calls Tryz.prog 25 #[.pointer (some ⟨b, 0, none⟩), cv, lv] w fun e w' => e = .returned (.tuple #[.agg #[.int .i64 0, .int .i64 0], .bool false, .bool false]) ∧ StepTo P F w w' := by
  have hst := flstage b f _ (h.fr (F := No) ((Fr.refl No w).alloc (.cells #[.int .i64 0, .int .i64 0] 44)) id)
  rw [hs] at hst
  have Hst := Lib.hid hst
  have Hc := Lib.hid (hc _ rfl)
  have HF := Lib.hid hF
  have HB := Lib.hid (Blk.new w 44 #[.int .i64 0, .int .i64 0])
  clear h hst hc hF hs
  go_enter Tryz.func25, Tryz.ntmps25
  go_wp2_with fail
  refine Hst.out.mono ?_
  rintro e w1 ⟨rfl, rfl⟩
  go_wp2_with fail
  refine Hc.out.mono ?_
  rintro e w1 ⟨rfl, hP, hf⟩
  obtain ⟨q1, q2, q3⟩ := own HB.out hf HF.out
  have HP := Lib.hid hP
  have Hf := Lib.hid hf
  clear hP hf
  go_wp2_with fail
  refine bodyPost_ret (by (simp [results, Tryz.results25, go_sem, *]; try rfl)) rfl ?_
  exact ⟨rfl, ⟨⟨w1, HP.out, Hf.out, ((Fr.refl (One w.heap.size) w1).set1 _ _).set1 _ _⟩⟩⟩

theorem flstep4 (b : Nat) (f : Fl) (cv lv : Value) (w : World) (h : FlAt w b f) (hs : f.stage = 4) (P : World → Prop) (F : Nat → Prop) (hF : ¬ F w.heap.size)
    (hc : ∀ w0, w0 = w.alloc (.cells #[.int .i64 0, .int .i64 0] 44) → Calls Tryz.prog 81 #[.pointer (some ⟨b, 0, none⟩), cv] w0 fun e w' => e = .returned (.tuple #[]) ∧ P w' ∧ Fr F w0 w') :
    Calls Tryz.prog 25 #[.pointer (some ⟨b, 0, none⟩), cv, lv] w fun e w' => e = .returned (.tuple #[.agg #[.int .i64 0, .int .i64 0], .bool false, .bool false]) ∧ StepTo P F w w' := by
  have hst := flstage b f _ (h.fr (F := No) ((Fr.refl No w).alloc (.cells #[.int .i64 0, .int .i64 0] 44)) id)
  rw [hs] at hst
  have Hst := Lib.hid hst
  have Hc := Lib.hid (hc _ rfl)
  have HF := Lib.hid hF
  have HB := Lib.hid (Blk.new w 44 #[.int .i64 0, .int .i64 0])
  clear h hst hc hF hs
  go_enter Tryz.func25, Tryz.ntmps25
  go_wp2_with fail
  refine Hst.out.mono ?_
  rintro e w1 ⟨rfl, rfl⟩
  go_wp2_with fail
  refine Hc.out.mono ?_
  rintro e w1 ⟨rfl, hP, hf⟩
  obtain ⟨q1, q2, q3⟩ := own HB.out hf HF.out
  have HP := Lib.hid hP
  have Hf := Lib.hid hf
  clear hP hf
  go_wp2_with fail
  refine bodyPost_ret (by (simp [results, Tryz.results25, go_sem, *]; try rfl)) rfl ?_
  exact ⟨rfl, ⟨⟨w1, HP.out, Hf.out, ((Fr.refl (One w.heap.size) w1).set1 _ _).set1 _ _⟩⟩⟩

theorem flstep2 (b : Nat) (f : Fl) (cv lv : Value) (w : World) (h : FlAt w b f) (hs : f.stage = 2) (P : World → Prop) (F : Nat → Prop) (hF : ¬ F w.heap.size)
    (hc : ∀ w0, w0 = w.alloc (.cells #[.int .i64 0, .int .i64 0] 44) → Calls Tryz.prog 82 #[.pointer (some ⟨b, 0, none⟩), lv] w0 fun e w' => e = .returned (.tuple #[]) ∧ P w' ∧ Fr F w0 w') :
    Calls Tryz.prog 25 #[.pointer (some ⟨b, 0, none⟩), cv, lv] w fun e w' => e = .returned (.tuple #[.agg #[.int .i64 0, .int .i64 0], .bool false, .bool false]) ∧ StepTo P F w w' := by
  have hst := flstage b f _ (h.fr (F := No) ((Fr.refl No w).alloc (.cells #[.int .i64 0, .int .i64 0] 44)) id)
  rw [hs] at hst
  have Hst := Lib.hid hst
  have Hc := Lib.hid (hc _ rfl)
  have HF := Lib.hid hF
  have HB := Lib.hid (Blk.new w 44 #[.int .i64 0, .int .i64 0])
  clear h hst hc hF hs
  go_enter Tryz.func25, Tryz.ntmps25
  go_wp2_with fail
  refine Hst.out.mono ?_
  rintro e w1 ⟨rfl, rfl⟩
  go_wp2_with fail
  refine Hc.out.mono ?_
  rintro e w1 ⟨rfl, hP, hf⟩
  obtain ⟨q1, q2, q3⟩ := own HB.out hf HF.out
  have HP := Lib.hid hP
  have Hf := Lib.hid hf
  clear hP hf
  go_wp2_with fail
  refine bodyPost_ret (by (simp [results, Tryz.results25, go_sem, *]; try rfl)) rfl ?_
  exact ⟨rfl, ⟨⟨w1, HP.out, Hf.out, ((Fr.refl (One w.heap.size) w1).set1 _ _).set1 _ _⟩⟩⟩

theorem flstep5 (b : Nat) (f : Fl) (cv lv : Value) (w : World) (h : FlAt w b f) (hs : f.stage = 5) (P : World → Prop) (F : Nat → Prop) (hF : ¬ F w.heap.size)
    (hc : ∀ w0, w0 = w.alloc (.cells #[.int .i64 0, .int .i64 0] 44) → Calls Tryz.prog 82 #[.pointer (some ⟨b, 0, none⟩), lv] w0 fun e w' => e = .returned (.tuple #[]) ∧ P w' ∧ Fr F w0 w') :
    Calls Tryz.prog 25 #[.pointer (some ⟨b, 0, none⟩), cv, lv] w fun e w' => e = .returned (.tuple #[.agg #[.int .i64 0, .int .i64 0], .bool false, .bool false]) ∧ StepTo P F w w' := by
  have hst := flstage b f _ (h.fr (F := No) ((Fr.refl No w).alloc (.cells #[.int .i64 0, .int .i64 0] 44)) id)
  rw [hs] at hst
  have Hst := Lib.hid hst
  have Hc := Lib.hid (hc _ rfl)
  have HF := Lib.hid hF
  have HB := Lib.hid (Blk.new w 44 #[.int .i64 0, .int .i64 0])
  clear h hst hc hF hs
  go_enter Tryz.func25, Tryz.ntmps25
  go_wp2_with fail
  refine Hst.out.mono ?_
  rintro e w1 ⟨rfl, rfl⟩
  go_wp2_with fail
  refine Hc.out.mono ?_
  rintro e w1 ⟨rfl, hP, hf⟩
  obtain ⟨q1, q2, q3⟩ := own HB.out hf HF.out
  have HP := Lib.hid hP
  have Hf := Lib.hid hf
  clear hP hf
  go_wp2_with fail
  refine bodyPost_ret (by (simp [results, Tryz.results25, go_sem, *]; try rfl)) rfl ?_
  exact ⟨rfl, ⟨⟨w1, HP.out, Hf.out, ((Fr.refl (One w.heap.size) w1).set1 _ _).set1 _ _⟩⟩⟩

theorem flstep6 (b : Nat) (f : Fl) (cv lv : Value) (w : World) (h : FlAt w b f) (hs : f.stage = 6) (P : World → Prop) (F : Nat → Prop) (hF : ¬ F w.heap.size)
    (hc : ∀ w0, w0 = w.alloc (.cells #[.int .i64 0, .int .i64 0] 44) → Calls Tryz.prog 83 #[.pointer (some ⟨b, 0, none⟩)] w0 fun e w' => e = .returned (.tuple #[]) ∧ P w' ∧ Fr F w0 w') :
    Calls Tryz.prog 25 #[.pointer (some ⟨b, 0, none⟩), cv, lv] w fun e w' => e = .returned (.tuple #[.agg #[.int .i64 0, .int .i64 0], .bool false, .bool false]) ∧ StepTo P F w w' := by
  have hst := flstage b f _ (h.fr (F := No) ((Fr.refl No w).alloc (.cells #[.int .i64 0, .int .i64 0] 44)) id)
  rw [hs] at hst
  have Hst := Lib.hid hst
  have Hc := Lib.hid (hc _ rfl)
  have HF := Lib.hid hF
  have HB := Lib.hid (Blk.new w 44 #[.int .i64 0, .int .i64 0])
  clear h hst hc hF hs
  go_enter Tryz.func25, Tryz.ntmps25
  go_wp2_with fail
  refine Hst.out.mono ?_
  rintro e w1 ⟨rfl, rfl⟩
  go_wp2_with fail
  refine Hc.out.mono ?_
  rintro e w1 ⟨rfl, hP, hf⟩
  obtain ⟨q1, q2, q3⟩ := own HB.out hf HF.out
  have HP := Lib.hid hP
  have Hf := Lib.hid hf
  clear hP hf
  go_wp2_with fail
  refine bodyPost_ret (by (simp [results, Tryz.results25, go_sem, *]; try rfl)) rfl ?_
  exact ⟨rfl, ⟨⟨w1, HP.out, Hf.out, ((Fr.refl (One w.heap.size) w1).set1 _ _).set1 _ _⟩⟩⟩

end Go.Proofs.YtbbbodfikgdhcaaGreatDoor
