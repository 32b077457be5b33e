/- Each step of a pass for which nothing waits, with its core and its locks. -/
import Derived.Test.YtbbbodfikgdhcaaGreatDoorFill7
namespace Go.Proofs.YtbbbodfikgdhcaaGreatDoor
open Go Go.RowKit

abbrev stepAns : Ending := .returned (.tuple #[.agg #[.int .i64 0, .int .i64 0], .bool false, .bool false])
section
variable {w : World} {L : Locs} {s : St} {a b : Nat} {l : Lk} {f : Fl}
theorem FEnv.nfresh (e : FEnv w L s a l b f) : ¬ BA b a w.heap.size := by
  have hb := e.fl.lt
  have ha := e.lock.lt
  rintro (h | h) <;> omega

theorem fe0 (e : FEnv w L s a l b f) (hs : f.stage = 0) (hw : 1 ≤ f.who) (hn : (l.held f.who).next f.which = 3) (ho : l.own f.which = 0) :
    Calls Tryz.prog 25 #[.pointer (some ⟨b, 0, none⟩), .pointer (some ⟨L.c, 0, none⟩), .pointer (some ⟨a, 0, none⟩)] w fun x w' => x = stepAns ∧ FEnv w' L s a { l.set f.which f.who with n := wrap64 (l.n + 1) } b { f with stage := 1 } ∧ Fr (BA b a) w w' := by
  refine (flstep0 b f _ _ w e.fl hs (fun w1 => (FlAt w1 b { f with stage := 1 } ∧ LockAt w1 a { l.set f.which f.who with n := wrap64 (l.n + 1) }) ∧ True) (BA b a) e.nfresh ?_).mono ?_
  · rintro w0 rfl
    have e0 := e.frNo ((Fr.refl No w).alloc (.cells #[.int .i64 0, .int .i64 0] 44))
    refine (fllock b a f l _ e0.fl e0.lock (by omega) hw hn ho).mono ?_
    rintro x w' ⟨rfl, h1, h2, hf⟩
    rw [hs] at h1
    exact ⟨rfl, ⟨⟨h1, h2⟩, trivial⟩, hf⟩
  · rintro x w' ⟨rfl, ht⟩
    obtain ⟨h1, _, h2⟩ := e.after ht
    exact ⟨rfl, h1, h2⟩

theorem fe3 (e : FEnv w L s a l b f) (hs : f.stage = 3) (hw : 1 ≤ f.who) (hn : (l.held f.who).next f.which = 3) (ho : l.own f.which = 0) :
    Calls Tryz.prog 25 #[.pointer (some ⟨b, 0, none⟩), .pointer (some ⟨L.c, 0, none⟩), .pointer (some ⟨a, 0, none⟩)] w fun x w' => x = stepAns ∧ FEnv w' L s a { l.set f.which f.who with n := wrap64 (l.n + 1) } b { f with stage := 4 } ∧ Fr (BA b a) w w' := by
  refine (flstep3 b f _ _ w e.fl hs (fun w1 => (FlAt w1 b { f with stage := 4 } ∧ LockAt w1 a { l.set f.which f.who with n := wrap64 (l.n + 1) }) ∧ True) (BA b a) e.nfresh ?_).mono ?_
  · rintro w0 rfl
    have e0 := e.frNo ((Fr.refl No w).alloc (.cells #[.int .i64 0, .int .i64 0] 44))
    refine (fllock b a f l _ e0.fl e0.lock (by omega) hw hn ho).mono ?_
    rintro x w' ⟨rfl, h1, h2, hf⟩
    rw [hs] at h1
    exact ⟨rfl, ⟨⟨h1, h2⟩, trivial⟩, hf⟩
  · rintro x w' ⟨rfl, ht⟩
    obtain ⟨h1, _, h2⟩ := e.after ht
    exact ⟨rfl, h1, h2⟩

theorem fe2 (Q : World → Prop) (hQ : Q w) (hst : ∀ w0 w1, Q w0 → (∀ i, i < w0.heap.size → (¬ BA b a i) → w1.heap[i]? = w0.heap[i]?) → Q w1) (e : FEnv w L s a l b f) (hs : f.stage = 2) (hw : 1 ≤ f.who) (ho : l.own f.which = f.who) :
    Calls Tryz.prog 25 #[.pointer (some ⟨b, 0, none⟩), .pointer (some ⟨L.c, 0, none⟩), .pointer (some ⟨a, 0, none⟩)] w fun x w' => x = stepAns ∧ FEnv w' L s a (l.set f.which 0) b { f with stage := 3 } ∧ Q w' ∧ Fr (BA b a) w w' := by
  refine (flstep2 b f _ _ w e.fl hs (fun w1 => (FlAt w1 b { f with stage := 3 } ∧ LockAt w1 a (l.set f.which 0)) ∧ True) (BA b a) e.nfresh ?_).mono ?_
  · rintro w0 rfl
    have e0 := e.frNo ((Fr.refl No w).alloc (.cells #[.int .i64 0, .int .i64 0] 44))
    refine (flfree b a f l _ e0.fl e0.lock (by omega) hw ho).mono ?_
    rintro x w' ⟨rfl, h1, h2, hf⟩
    rw [hs] at h1
    exact ⟨rfl, ⟨⟨h1, h2⟩, trivial⟩, hf⟩
  · rintro x w' ⟨rfl, ht⟩
    obtain ⟨h1, _, h2⟩ := e.after ht
    exact ⟨rfl, h1, hst w w' hQ (fun i hi hn => h2.block i hi hn), h2⟩

theorem fe5 (Q : World → Prop) (hQ : Q w) (hst : ∀ w0 w1, Q w0 → (∀ i, i < w0.heap.size → (¬ BA b a i) → w1.heap[i]? = w0.heap[i]?) → Q w1) (e : FEnv w L s a l b f) (hs : f.stage = 5) (hw : 1 ≤ f.who) (ho : l.own f.which = f.who) :
    Calls Tryz.prog 25 #[.pointer (some ⟨b, 0, none⟩), .pointer (some ⟨L.c, 0, none⟩), .pointer (some ⟨a, 0, none⟩)] w fun x w' => x = stepAns ∧ FEnv w' L s a (l.set f.which 0) b { f with stage := 6 } ∧ Q w' ∧ Fr (BA b a) w w' := by
  refine (flstep5 b f _ _ w e.fl hs (fun w1 => (FlAt w1 b { f with stage := 6 } ∧ LockAt w1 a (l.set f.which 0)) ∧ True) (BA b a) e.nfresh ?_).mono ?_
  · rintro w0 rfl
    have e0 := e.frNo ((Fr.refl No w).alloc (.cells #[.int .i64 0, .int .i64 0] 44))
    refine (flfree b a f l _ e0.fl e0.lock (by omega) hw ho).mono ?_
    rintro x w' ⟨rfl, h1, h2, hf⟩
    rw [hs] at h1
    exact ⟨rfl, ⟨⟨h1, h2⟩, trivial⟩, hf⟩
  · rintro x w' ⟨rfl, ht⟩
    obtain ⟨h1, _, h2⟩ := e.after ht
    exact ⟨rfl, h1, hst w w' hQ (fun i hi hn => h2.block i hi hn), h2⟩

theorem fe1 (e : FEnv w L s a l b f) (hs : f.stage = 1) (hn : s.jobs.length ≤ 1048576) (h0 : inStates s.jobs [1] = []) :
    Calls Tryz.prog 25 #[.pointer (some ⟨b, 0, none⟩), .pointer (some ⟨L.c, 0, none⟩), .pointer (some ⟨a, 0, none⟩)] w fun x w' => x = stepAns ∧ FEnv w' L s a l b { f with items := .slice none 0 0, stage := 2 } ∧ Fr (BA b a) w w' := by
  refine (flstep1 b f _ _ w e.fl hs (fun w1 => (FlAt w1 b { f with items := .slice none 0 0, stage := 2 } ∧ LockAt w1 a l) ∧ True) (BA b a) e.nfresh ?_).mono ?_
  · rintro w0 rfl
    have e0 := e.frNo ((Fr.refl No w).alloc (.cells #[.int .i64 0, .int .i64 0] 44))
    refine (flcopyJ b f L s _ e0.fl e0.core hs hn h0).mono ?_
    rintro x w' ⟨rfl, h1, hf⟩
    exact ⟨rfl, ⟨⟨h1, e0.lock.fr hf (fun h => e0.fl.neL e0.lock h.symm)⟩, trivial⟩, hf.mono fun _ _ h => .inl h⟩
  · rintro x w' ⟨rfl, ht⟩
    obtain ⟨h1, _, h2⟩ := e.after ht
    exact ⟨rfl, h1, h2⟩
end
end Go.Proofs.YtbbbodfikgdhcaaGreatDoor
