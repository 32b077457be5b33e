/- The last steps of a pass for which nothing waits; chapter 18's example. -/
import Derived.Test.YtbbbodfikgdhcaaGreatDoorFill8
namespace Go.Proofs.YtbbbodfikgdhcaaGreatDoor
open Go Go.RowKit

section
variable {w : World} {L : Locs} {s : St} {a b : Nat} {l : Lk} {f : Fl}
/-- Behind the profile's copy. -/
structure Fe4 (w' : World) (L : Locs) (s : St) (a : Nat) (l : Lk) (b : Nat) (f : Fl) (w : World) : Prop where
  ex : ∃ q p' ao cap, FEnv w' L s a l b { f with pl := .pointer (some ⟨q, 0, none⟩), ver := s.ver, stage := 5 } ∧ PlanAt w' q p' (.slice ao 0 cap) 0 (.slice none 0 0) ∧ w.heap.size ≤ q

theorem fe4 (e : FEnv w L s a l b f) (hs : f.stage = 4) (hok : POk s.steps) (hi : f.items = .slice none 0 0) (hd : 1 ≤ f.depth ∧ f.depth ≤ 64) :
    Calls Tryz.prog 25 #[.pointer (some ⟨b, 0, none⟩), .pointer (some ⟨L.c, 0, none⟩), .pointer (some ⟨a, 0, none⟩)] w fun x w' => x = stepAns ∧ Fe4 w' L s a l b f w ∧ Fr (BA b a) w w' := by
  refine (flstep4 b f _ _ w e.fl hs (fun w1 => CopyTo b f s (w.alloc (.cells #[.int .i64 0, .int .i64 0] 44)) w1 ∧ LockAt w1 a l) (BA b a) e.nfresh ?_).mono ?_
  · rintro w0 rfl
    have e0 := e.frNo ((Fr.refl No w).alloc (.cells #[.int .i64 0, .int .i64 0] 44))
    refine (flcopyP b f L s _ e0.fl e0.core hs hok hi hd).mono ?_
    rintro x w' ⟨rfl, h1, hf⟩
    exact ⟨rfl, ⟨h1, e0.lock.fr hf (fun h => e0.fl.neL e0.lock h.symm)⟩, hf.mono fun _ _ h => .inl h⟩
  · rintro x w' ⟨rfl, ht⟩
    obtain ⟨w1, ⟨hc, hl⟩, h3, h4⟩ := ht.ex
    obtain ⟨q, p', g', ao, cap, g1, g2, g3, g4, g5, g6⟩ := hc.ex
    simp at g4
    obtain ⟨h1, _, h2⟩ := e.after (Q := fun _ => True) (f' := { f with pl := .pointer (some ⟨q, 0, none⟩), ver := s.ver, stage := 5 }) (l' := l) ⟨⟨w1, ⟨⟨g1, hl⟩, trivial⟩, h3, h4⟩⟩
    refine ⟨rfl, ⟨⟨q, p', ao, cap, h1, g2.fr h4 ?_, by omega⟩⟩, h2⟩
    intro h
    have : q = w.heap.size := h
    omega

/-- Behind the plan of nothing. -/
structure Fe6 (w' : World) (L : Locs) (s : St) (a : Nat) (l : Lk) (b : Nat) (f : Fl) : Prop where
  ex : ∃ ch, FEnv w' L s a l b { f with choices := ch, stage := 8 }

theorem fe6 (q p : Nat) (ao : Option Addr) (cap : Nat) (e : FEnv w L s a l b f) (hs : f.stage = 6) (hp : PlanAt w q p (.slice ao 0 cap) 0 (.slice none 0 0)) (hpl : f.pl = .pointer (some ⟨q, 0, none⟩)) (h1 : 1 ≤ f.some_) (ha : f.at_ = 0) :
    Calls Tryz.prog 25 #[.pointer (some ⟨b, 0, none⟩), .pointer (some ⟨L.c, 0, none⟩), .pointer (some ⟨a, 0, none⟩)] w fun x w' => x = stepAns ∧ Fe6 w' L s a l b f ∧ Fr (BA b a) w w' := by
  refine (flstep6 b f _ _ w e.fl hs (fun w1 => PlanTo b f w1 ∧ LockAt w1 a l) (BA b a) e.nfresh ?_).mono ?_
  · rintro w0 rfl
    have e0 := e.frNo ((Fr.refl No w).alloc (.cells #[.int .i64 0, .int .i64 0] 44))
    refine (flplan0 b q p f ao cap _ e0.fl (hp.fr ((Fr.refl No w).alloc (.cells #[.int .i64 0, .int .i64 0] 44)) id) hpl h1 ha).mono ?_
    rintro x w' ⟨rfl, h1, hf⟩
    exact ⟨rfl, ⟨h1, e0.lock.fr hf (fun h => e0.fl.neL e0.lock h.symm)⟩, hf.mono fun _ _ h => .inl h⟩
  · rintro x w' ⟨rfl, ht⟩
    obtain ⟨w1, ⟨hc, hl⟩, h3, h4⟩ := ht.ex
    obtain ⟨ch, g1⟩ := hc.ex
    obtain ⟨h1, _, h2⟩ := e.after (Q := fun _ => True) (f' := { f with choices := ch, stage := 8 }) (l' := l) ⟨⟨w1, ⟨⟨g1, hl⟩, trivial⟩, h3, h4⟩⟩
    exact ⟨rfl, ⟨⟨ch, h1⟩⟩, h2⟩
end
end Go.Proofs.YtbbbodfikgdhcaaGreatDoor
