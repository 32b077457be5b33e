/- A pass under way, all that it has together. -/
import Derived.Test.YtbbbodfikgdhcaaGreatDoorFill6
namespace Go.Proofs.YtbbbodfikgdhcaaGreatDoor
open Go Go.RowKit

/-- A core, locks, and a pass. -/
structure FEnv (w : World) (L : Locs) (s : St) (a : Nat) (l : Lk) (b : Nat) (f : Fl) : Prop where
  core : CoreAt w L s
  lock : LockAt w a l
  fl : FlAt w b f

/-- What was written: the pass, the locks. -/
def BA (b a : Nat) : Nat → Prop := fun i => i = b ∨ i = a

section
variable {w w' : World} {L : Locs} {s : St} {a b : Nat} {l l' : Lk} {f f' : Fl}
theorem FEnv.frNo (e : FEnv w L s a l b f) (hf : Fr No w w') : FEnv w' L s a l b f := ⟨e.core.frNo hf, e.lock.fr hf id, e.fl.fr hf id⟩
theorem FEnv.nBA (e : FEnv w L s a l b f) : ∀ k, L.foot k → ¬ BA b a k := by
  rintro k hk (rfl | rfl)
  · exact e.fl.off e.core hk
  · exact e.core.off e.lock (by decide) hk
theorem FEnv.after {Q : World → Prop} (e : FEnv w L s a l b f) (t : StepTo (fun w1 => (FlAt w1 b f' ∧ LockAt w1 a l') ∧ Q w1) (BA b a) w w') :
    FEnv w' L s a l' b f' ∧ (∃ w1, Q w1 ∧ w.heap.size < w1.heap.size ∧ Fr (One w.heap.size) w1 w') ∧ Fr (BA b a) w w' := by
  obtain ⟨w1, ⟨⟨h1, h2⟩, hq⟩, h3, h4⟩ := t.ex
  have h0 : Fr No w (w.alloc (.cells #[.int .i64 0, .int .i64 0] 44)) := (Fr.refl No w).alloc _
  have hb := e.fl.lt
  have ha := e.lock.lt
  have hz := h3.size
  simp at hz
  refine ⟨⟨((e.core.frNo h0).fr h3 e.nBA).fr h4 ?_, h2.fr h4 ?_, h1.fr h4 ?_⟩, ⟨w1, hq, by omega, h4⟩, ?_⟩
  · intro k hk hx
    have := e.core.lt k hk
    have : k = w.heap.size := hx
    omega
  · intro hx
    have : a = w.heap.size := hx
    omega
  · intro hx
    have : b = w.heap.size := hx
    omega
  · refine (h0.noThen h3).trans h4 (fun _ x => x) ?_
    intro i hi hx
    have : i = w.heap.size := hx
    omega
end
end Go.Proofs.YtbbbodfikgdhcaaGreatDoor
