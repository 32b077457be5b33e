/- Contracts of the table of jobs: all of them, those in some states, how many. -/
import Derived.Test.YtbbbodfikgdhcaaGreatDoorIdx
namespace Go.Proofs.YtbbbodfikgdhcaaGreatDoor
open Go Go.RowKit

theorem Job.cs_len (j : Job) : j.cs.length = 10 := rfl
theorem Job.cs_one (j : Job) : ∀ u ∈ j.cs, u.oneCell' = true := by
  intro u hu
  simp [Job.cs] at hu
  rcases hu with h | h | h | h | h | h | h | h | h | h <;> subst h <;> rfl
theorem rowsJ_len (l : List Job) : (rowsJ l).length = l.length * 10 := by
  induction l with
  | nil => rfl
  | cons j l ih =>
    have e : rowsJ (j :: l) = j.cs ++ rowsJ l := by simp [rowsJ]
    rw [e, List.length_append, ih, Job.cs_len, List.length_cons]; omega
theorem rowsJ_one (l : List Job) : ∀ u ∈ rowsJ l, u.oneCell' = true := by
  intro u hu
  obtain ⟨j, _, hj⟩ := List.mem_flatMap.1 hu
  exact j.cs_one u hj
theorem rowsJ_at {l : List Job} {a : Nat} {j : Job} (h : l[a]? = some j) (k : Nat) (hk : k < 10) : (rowsJ l)[a * 10 + k]? = j.cs[k]? := by
  induction l generalizing a with
  | nil => simp at h
  | cons x l ih =>
    have e : rowsJ (x :: l) = x.cs ++ rowsJ l := by simp [rowsJ]
    rw [e]
    cases a with
    | zero =>
      simp at h; subst h
      rw [List.getElem?_append_left (by rw [Job.cs_len]; omega)]
      simp
    | succ a =>
      rw [List.getElem?_append_right (by rw [Job.cs_len]; omega), Job.cs_len]
      rw [show (a + 1) * 10 + k - 10 = a * 10 + k from by omega]
      exact ih (by simpa using h)
theorem rowsJ_append (a b : List Job) : rowsJ (a ++ b) = rowsJ a ++ rowsJ b := by simp [rowsJ]

/-- A job's ten cells, in an owned row. -/
theorem row_cells {w : World} {base g cap : Nat} {l : List Job} (h : w.ownsRow base 89 10 (.slice (some ⟨g, 0, none⟩) l.length cap) l.length (rowsJ l)) {a : Nat} {j : Job} (hj : l[a]? = some j) :
    ∀ k, k < 10 → w.cell? ⟨g, a * 10 + k, none⟩ = j.cs[k]? := by
  intro k hk
  have ha := (List.getElem?_eq_some_iff.1 hj).1
  rw [h.cellAt (a * 10 + k) (by omega), rowsJ_at hj k hk]

theorem JobsAt.facts {w : World} {b : Nat} {v : Value} {l : List Job} {live : Int} (h : JobsAt w b v l live) : w.cell? ⟨b, 0, none⟩ = some v ∧ w.cell? ⟨b, 1, none⟩ = some (.int .i64 live) ∧ w.cell? ⟨b, 2, none⟩ = some (.bool true) ∧ b < w.heap.size :=
  ⟨by rw [h.blk.cell]; rfl, by rw [h.blk.cell]; rfl, by rw [h.blk.cell]; rfl, h.blk.lt⟩
/-- The slice of jobs: none, or a row of its own. -/
theorem JobsAt.form {w : World} {b : Nat} {v : Value} {l : List Job} {live : Int} (h : JobsAt w b v l live) : (v = .slice none 0 0 ∧ l = []) ∨ ∃ g cap, v = .slice (some ⟨g, 0, none⟩) l.length cap := by
  rcases h.own.2 with ⟨hv, hn⟩ | ⟨g, cap, cur, hv, _⟩
  · exact .inl ⟨hv, List.eq_nil_of_length_eq_zero hn⟩
  · exact .inr ⟨g, cap, hv⟩

theorem jnone (b : Nat) (v : Value) (l : List Job) (live : Int) (w : World) (h : JobsAt w b v l live) : Calls Tryz.prog 95 #[.pointer (some ⟨b, 0, none⟩)] w fun e w' => e = .returned (.bool false) ∧ w = w' := by
  obtain ⟨c0, c1, c2, c3⟩ := h.facts
  clear h
  go_enter Tryz.func95, Tryz.ntmps95
  go_wp2
  go_ret
  exact ⟨rfl, rfl⟩

theorem jall (b : Nat) (v : Value) (l : List Job) (live : Int) (w : World) (h : JobsAt w b v l live) (hn : l.length ≤ 1048576) :
    Calls Tryz.prog 40 #[.pointer (some ⟨b, 0, none⟩)] w fun e w' => ∃ v', e = .returned v' ∧ w'.ownsRow w.heap.size 89 10 v' l.length (rowsJ l) ∧ Fr No w w' := by
  obtain ⟨c0, c1, c2, c3⟩ := h.facts
  have H := Lib.hid h
  have Hf := Lib.hid h.form
  clear h
  rcases Hf.out with ⟨rfl, hl⟩ | ⟨g, cap, rfl⟩
  all_goals
    go_enter Tryz.func40, Tryz.ntmps40
    go_wp2_with fail
    refine (jnone b _ l live _ H.out).mono ?_
    rintro e w1 ⟨rfl, rfl⟩
    go_wp2_with fail
    refine (cloneJob _ _ _ _ H.out.own (rowsJ_one l) hn).mono ?_
    rintro e w1 ⟨v', rfl, ho, hf⟩
    have Ho := Lib.hid ho
    clear ho
    go_wp2_with fail
    go_ret
    exact ⟨_, rfl, Ho.out, hf⟩
end Go.Proofs.YtbbbodfikgdhcaaGreatDoor
