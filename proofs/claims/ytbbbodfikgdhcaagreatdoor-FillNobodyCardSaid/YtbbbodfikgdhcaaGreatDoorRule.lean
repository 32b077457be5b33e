/- Contracts of package rule: which locks a request needs. -/
import Derived.Test.YtbbbodfikgdhcaaGreatDoorProg
import Derived.Test.YtbbbodfikgdhcaaGreatDoorBase
namespace Go.Proofs.YtbbbodfikgdhcaaGreatDoor
open Go Go.RowKit

abbrev laneV (a b c : Bool) : Value := .agg #[.bool a, .bool b, .bool c]

theorem of_02 (g c : Nat) (w : World) (hg : g < w.heap.size) (h0 : w.cell? ⟨g, 0, none⟩ = some (.int .i64 0)) (h1 : w.cell? ⟨g, 1, none⟩ = some (.int .i64 2)) :
    Calls Tryz.prog 73 #[.slice (some ⟨g, 0, none⟩) 2 c] w fun e w' => e = .returned (laneV true false true) ∧ Fr No w w' := by
  go_enter Tryz.func73, Tryz.ntmps73
  go_wp2
  go_rounds 3
  go_returns
  exact ⟨rfl, ((Fr.refl _ _).alloc _).alloc _⟩

theorem of_012 (g c : Nat) (w : World) (hg : g < w.heap.size) (h0 : w.cell? ⟨g, 0, none⟩ = some (.int .i64 0)) (h1 : w.cell? ⟨g, 1, none⟩ = some (.int .i64 1)) (h2 : w.cell? ⟨g, 2, none⟩ = some (.int .i64 2)) :
    Calls Tryz.prog 73 #[.slice (some ⟨g, 0, none⟩) 3 c] w fun e w' => e = .returned (laneV true true true) ∧ Fr No w w' := by
  go_enter Tryz.func73, Tryz.ntmps73
  go_wp2
  go_rounds 4
  go_returns
  exact ⟨rfl, ((Fr.refl _ _).alloc _).alloc _⟩

theorem of_0 (g c : Nat) (w : World) (hg : g < w.heap.size) (h0 : w.cell? ⟨g, 0, none⟩ = some (.int .i64 0)) :
    Calls Tryz.prog 73 #[.slice (some ⟨g, 0, none⟩) 1 c] w fun e w' => e = .returned (laneV true false false) ∧ Fr No w w' := by
  go_enter Tryz.func73, Tryz.ntmps73
  go_wp2
  go_rounds 2
  go_returns
  exact ⟨rfl, ((Fr.refl _ _).alloc _).alloc _⟩

theorem of_1 (g c : Nat) (w : World) (hg : g < w.heap.size) (h0 : w.cell? ⟨g, 0, none⟩ = some (.int .i64 1)) :
    Calls Tryz.prog 73 #[.slice (some ⟨g, 0, none⟩) 1 c] w fun e w' => e = .returned (laneV false true false) ∧ Fr No w w' := by
  go_enter Tryz.func73, Tryz.ntmps73
  go_wp2
  go_rounds 2
  go_returns
  exact ⟨rfl, ((Fr.refl _ _).alloc _).alloc _⟩

theorem of_2 (g c : Nat) (w : World) (hg : g < w.heap.size) (h0 : w.cell? ⟨g, 0, none⟩ = some (.int .i64 2)) :
    Calls Tryz.prog 73 #[.slice (some ⟨g, 0, none⟩) 1 c] w fun e w' => e = .returned (laneV false false true) ∧ Fr No w w' := by
  go_enter Tryz.func73, Tryz.ntmps73
  go_wp2
  go_rounds 2
  go_returns
  exact ⟨rfl, ((Fr.refl _ _).alloc _).alloc _⟩

theorem every (w : World) : Calls Tryz.prog 74 #[] w fun e w' => e = .returned (laneV true true true) ∧ Fr No w w' := by
  go_enter Tryz.func74, Tryz.ntmps74
  go_wp2_with fail
  refine (of_012 _ _ _ (by simp) (by simp [go_sem]) (by simp [go_sem]) (by simp [go_sem])).mono ?_
  rintro e w1 ⟨rfl, hf⟩
  obtain ⟨q1, q2, q3⟩ := ownNo ((Blk.new w 31 _).alloc _) hf
  go_wp2_with fail
  refine bodyPost_ret (by (simp [results, Tryz.results74, go_sem, *]; try rfl)) rfl ?_
  exact ⟨rfl, by (repeat' (first | with_reducible exact Fr.refl _ _ | with_reducible assumption | with_reducible refine Fr.setCell ?_ (Or.inr (by (first | with_reducible exact Nat.le_refl _ | (simp; done) | omega | (simp; omega)))) _ | with_reducible refine Fr.alloc ?_ _ | with_reducible refine Fr.drew ?_ | with_reducible refine Fr.drewN ?_ _ | (with_reducible refine Fr.then ?_ (by with_reducible assumption))))⟩

/-- The locks that a kind needs. -/
structure Lane where
  a : Bool
  b : Bool
  c : Bool
deriving DecidableEq
def needs (k : Int) : Lane :=
  if k = 1 ∨ k = 3 ∨ k = 4 then ⟨true, false, true⟩ else if k = 2 ∨ k = 5 ∨ k = 7 ∨ k = 8 ∨ k = 9 then ⟨true, true, true⟩
  else if k = 6 ∨ k = 11 then ⟨true, false, false⟩ else if k = 10 then ⟨false, true, false⟩ else if k = 12 then ⟨false, false, true⟩ else ⟨false, false, false⟩
def Lane.v (l : Lane) : Value := laneV l.a l.b l.c

theorem needs_1 (w : World) : Calls Tryz.prog 15 #[.int .i64 1] w fun e w' => e = .returned (laneV true false true) ∧ Fr No w w' := by
  go_enter Tryz.func15, Tryz.ntmps15
  go_wp2_with fail
  refine (of_02 _ _ _ (by simp) (by simp [go_sem]) (by simp [go_sem])).mono ?_
  rintro e w1 ⟨rfl, hf⟩
  obtain ⟨q1, q2, q3⟩ := ownNo ((Blk.new w 31 _).alloc _) hf
  go_wp2_with fail
  refine bodyPost_ret (by (simp [results, Tryz.results15, go_sem, *]; try rfl)) rfl ?_
  exact ⟨rfl, by (repeat' (first | with_reducible exact Fr.refl _ _ | with_reducible assumption | with_reducible refine Fr.setCell ?_ (Or.inr (by (first | with_reducible exact Nat.le_refl _ | (simp; done) | omega | (simp; omega)))) _ | with_reducible refine Fr.alloc ?_ _ | with_reducible refine Fr.drew ?_ | with_reducible refine Fr.drewN ?_ _ | (with_reducible refine Fr.then ?_ (by with_reducible assumption))))⟩

theorem needs_3 (w : World) : Calls Tryz.prog 15 #[.int .i64 3] w fun e w' => e = .returned (laneV true false true) ∧ Fr No w w' := by
  go_enter Tryz.func15, Tryz.ntmps15
  go_wp2_with fail
  refine (of_02 _ _ _ (by simp) (by simp [go_sem]) (by simp [go_sem])).mono ?_
  rintro e w1 ⟨rfl, hf⟩
  obtain ⟨q1, q2, q3⟩ := ownNo ((Blk.new w 31 _).alloc _) hf
  go_wp2_with fail
  refine bodyPost_ret (by (simp [results, Tryz.results15, go_sem, *]; try rfl)) rfl ?_
  exact ⟨rfl, by (repeat' (first | with_reducible exact Fr.refl _ _ | with_reducible assumption | with_reducible refine Fr.setCell ?_ (Or.inr (by (first | with_reducible exact Nat.le_refl _ | (simp; done) | omega | (simp; omega)))) _ | with_reducible refine Fr.alloc ?_ _ | with_reducible refine Fr.drew ?_ | with_reducible refine Fr.drewN ?_ _ | (with_reducible refine Fr.then ?_ (by with_reducible assumption))))⟩

theorem needs_4 (w : World) : Calls Tryz.prog 15 #[.int .i64 4] w fun e w' => e = .returned (laneV true false true) ∧ Fr No w w' := by
  go_enter Tryz.func15, Tryz.ntmps15
  go_wp2_with fail
  refine (of_02 _ _ _ (by simp) (by simp [go_sem]) (by simp [go_sem])).mono ?_
  rintro e w1 ⟨rfl, hf⟩
  obtain ⟨q1, q2, q3⟩ := ownNo ((Blk.new w 31 _).alloc _) hf
  go_wp2_with fail
  refine bodyPost_ret (by (simp [results, Tryz.results15, go_sem, *]; try rfl)) rfl ?_
  exact ⟨rfl, by (repeat' (first | with_reducible exact Fr.refl _ _ | with_reducible assumption | with_reducible refine Fr.setCell ?_ (Or.inr (by (first | with_reducible exact Nat.le_refl _ | (simp; done) | omega | (simp; omega)))) _ | with_reducible refine Fr.alloc ?_ _ | with_reducible refine Fr.drew ?_ | with_reducible refine Fr.drewN ?_ _ | (with_reducible refine Fr.then ?_ (by with_reducible assumption))))⟩

theorem needs_2 (w : World) : Calls Tryz.prog 15 #[.int .i64 2] w fun e w' => e = .returned (laneV true true true) ∧ Fr No w w' := by
  go_enter Tryz.func15, Tryz.ntmps15
  go_wp2_with fail
  refine (every _).mono ?_
  rintro e w1 ⟨rfl, hf⟩
  obtain ⟨q1, q2, q3⟩ := ownNo (Blk.new w 31 _) hf
  go_wp2_with fail
  refine bodyPost_ret (by (simp [results, Tryz.results15, go_sem, *]; try rfl)) rfl ?_
  exact ⟨rfl, by (repeat' (first | with_reducible exact Fr.refl _ _ | with_reducible assumption | with_reducible refine Fr.setCell ?_ (Or.inr (by (first | with_reducible exact Nat.le_refl _ | (simp; done) | omega | (simp; omega)))) _ | with_reducible refine Fr.alloc ?_ _ | with_reducible refine Fr.drew ?_ | with_reducible refine Fr.drewN ?_ _ | (with_reducible refine Fr.then ?_ (by with_reducible assumption))))⟩

theorem needs_5 (w : World) : Calls Tryz.prog 15 #[.int .i64 5] w fun e w' => e = .returned (laneV true true true) ∧ Fr No w w' := by
  go_enter Tryz.func15, Tryz.ntmps15
  go_wp2_with fail
  refine (every _).mono ?_
  rintro e w1 ⟨rfl, hf⟩
  obtain ⟨q1, q2, q3⟩ := ownNo (Blk.new w 31 _) hf
  go_wp2_with fail
  refine bodyPost_ret (by (simp [results, Tryz.results15, go_sem, *]; try rfl)) rfl ?_
  exact ⟨rfl, by (repeat' (first | with_reducible exact Fr.refl _ _ | with_reducible assumption | with_reducible refine Fr.setCell ?_ (Or.inr (by (first | with_reducible exact Nat.le_refl _ | (simp; done) | omega | (simp; omega)))) _ | with_reducible refine Fr.alloc ?_ _ | with_reducible refine Fr.drew ?_ | with_reducible refine Fr.drewN ?_ _ | (with_reducible refine Fr.then ?_ (by with_reducible assumption))))⟩

theorem needs_7 (w : World) : Calls Tryz.prog 15 #[.int .i64 7] w fun e w' => e = .returned (laneV true true true) ∧ Fr No w w' := by
  go_enter Tryz.func15, Tryz.ntmps15
  go_wp2_with fail
  refine (every _).mono ?_
  rintro e w1 ⟨rfl, hf⟩
  obtain ⟨q1, q2, q3⟩ := ownNo (Blk.new w 31 _) hf
  go_wp2_with fail
  refine bodyPost_ret (by (simp [results, Tryz.results15, go_sem, *]; try rfl)) rfl ?_
  exact ⟨rfl, by (repeat' (first | with_reducible exact Fr.refl _ _ | with_reducible assumption | with_reducible refine Fr.setCell ?_ (Or.inr (by (first | with_reducible exact Nat.le_refl _ | (simp; done) | omega | (simp; omega)))) _ | with_reducible refine Fr.alloc ?_ _ | with_reducible refine Fr.drew ?_ | with_reducible refine Fr.drewN ?_ _ | (with_reducible refine Fr.then ?_ (by with_reducible assumption))))⟩

theorem needs_8 (w : World) : Calls Tryz.prog 15 #[.int .i64 8] w fun e w' => e = .returned (laneV true true true) ∧ Fr No w w' := by
  go_enter Tryz.func15, Tryz.ntmps15
  go_wp2_with fail
  refine (every _).mono ?_
  rintro e w1 ⟨rfl, hf⟩
  obtain ⟨q1, q2, q3⟩ := ownNo (Blk.new w 31 _) hf
  go_wp2_with fail
  refine bodyPost_ret (by (simp [results, Tryz.results15, go_sem, *]; try rfl)) rfl ?_
  exact ⟨rfl, by (repeat' (first | with_reducible exact Fr.refl _ _ | with_reducible assumption | with_reducible refine Fr.setCell ?_ (Or.inr (by (first | with_reducible exact Nat.le_refl _ | (simp; done) | omega | (simp; omega)))) _ | with_reducible refine Fr.alloc ?_ _ | with_reducible refine Fr.drew ?_ | with_reducible refine Fr.drewN ?_ _ | (with_reducible refine Fr.then ?_ (by with_reducible assumption))))⟩

theorem needs_9 (w : World) : Calls Tryz.prog 15 #[.int .i64 9] w fun e w' => e = .returned (laneV true true true) ∧ Fr No w w' := by
  go_enter Tryz.func15, Tryz.ntmps15
  go_wp2_with fail
  refine (every _).mono ?_
  rintro e w1 ⟨rfl, hf⟩
  obtain ⟨q1, q2, q3⟩ := ownNo (Blk.new w 31 _) hf
  go_wp2_with fail
  refine bodyPost_ret (by (simp [results, Tryz.results15, go_sem, *]; try rfl)) rfl ?_
  exact ⟨rfl, by (repeat' (first | with_reducible exact Fr.refl _ _ | with_reducible assumption | with_reducible refine Fr.setCell ?_ (Or.inr (by (first | with_reducible exact Nat.le_refl _ | (simp; done) | omega | (simp; omega)))) _ | with_reducible refine Fr.alloc ?_ _ | with_reducible refine Fr.drew ?_ | with_reducible refine Fr.drewN ?_ _ | (with_reducible refine Fr.then ?_ (by with_reducible assumption))))⟩

theorem needs_6 (w : World) : Calls Tryz.prog 15 #[.int .i64 6] w fun e w' => e = .returned (laneV true false false) ∧ Fr No w w' := by
  go_enter Tryz.func15, Tryz.ntmps15
  go_wp2_with fail
  refine (of_0 _ _ _ (by simp) (by simp [go_sem])).mono ?_
  rintro e w1 ⟨rfl, hf⟩
  obtain ⟨q1, q2, q3⟩ := ownNo ((Blk.new w 31 _).alloc _) hf
  go_wp2_with fail
  refine bodyPost_ret (by (simp [results, Tryz.results15, go_sem, *]; try rfl)) rfl ?_
  exact ⟨rfl, by (repeat' (first | with_reducible exact Fr.refl _ _ | with_reducible assumption | with_reducible refine Fr.setCell ?_ (Or.inr (by (first | with_reducible exact Nat.le_refl _ | (simp; done) | omega | (simp; omega)))) _ | with_reducible refine Fr.alloc ?_ _ | with_reducible refine Fr.drew ?_ | with_reducible refine Fr.drewN ?_ _ | (with_reducible refine Fr.then ?_ (by with_reducible assumption))))⟩

theorem needs_11 (w : World) : Calls Tryz.prog 15 #[.int .i64 11] w fun e w' => e = .returned (laneV true false false) ∧ Fr No w w' := by
  go_enter Tryz.func15, Tryz.ntmps15
  go_wp2_with fail
  refine (of_0 _ _ _ (by simp) (by simp [go_sem])).mono ?_
  rintro e w1 ⟨rfl, hf⟩
  obtain ⟨q1, q2, q3⟩ := ownNo ((Blk.new w 31 _).alloc _) hf
  go_wp2_with fail
  refine bodyPost_ret (by (simp [results, Tryz.results15, go_sem, *]; try rfl)) rfl ?_
  exact ⟨rfl, by (repeat' (first | with_reducible exact Fr.refl _ _ | with_reducible assumption | with_reducible refine Fr.setCell ?_ (Or.inr (by (first | with_reducible exact Nat.le_refl _ | (simp; done) | omega | (simp; omega)))) _ | with_reducible refine Fr.alloc ?_ _ | with_reducible refine Fr.drew ?_ | with_reducible refine Fr.drewN ?_ _ | (with_reducible refine Fr.then ?_ (by with_reducible assumption))))⟩

theorem needs_10 (w : World) : Calls Tryz.prog 15 #[.int .i64 10] w fun e w' => e = .returned (laneV false true false) ∧ Fr No w w' := by
  go_enter Tryz.func15, Tryz.ntmps15
  go_wp2_with fail
  refine (of_1 _ _ _ (by simp) (by simp [go_sem])).mono ?_
  rintro e w1 ⟨rfl, hf⟩
  obtain ⟨q1, q2, q3⟩ := ownNo ((Blk.new w 31 _).alloc _) hf
  go_wp2_with fail
  refine bodyPost_ret (by (simp [results, Tryz.results15, go_sem, *]; try rfl)) rfl ?_
  exact ⟨rfl, by (repeat' (first | with_reducible exact Fr.refl _ _ | with_reducible assumption | with_reducible refine Fr.setCell ?_ (Or.inr (by (first | with_reducible exact Nat.le_refl _ | (simp; done) | omega | (simp; omega)))) _ | with_reducible refine Fr.alloc ?_ _ | with_reducible refine Fr.drew ?_ | with_reducible refine Fr.drewN ?_ _ | (with_reducible refine Fr.then ?_ (by with_reducible assumption))))⟩

theorem needs_12 (w : World) : Calls Tryz.prog 15 #[.int .i64 12] w fun e w' => e = .returned (laneV false false true) ∧ Fr No w w' := by
  go_enter Tryz.func15, Tryz.ntmps15
  go_wp2_with fail
  refine (of_2 _ _ _ (by simp) (by simp [go_sem])).mono ?_
  rintro e w1 ⟨rfl, hf⟩
  obtain ⟨q1, q2, q3⟩ := ownNo ((Blk.new w 31 _).alloc _) hf
  go_wp2_with fail
  refine bodyPost_ret (by (simp [results, Tryz.results15, go_sem, *]; try rfl)) rfl ?_
  exact ⟨rfl, by (repeat' (first | with_reducible exact Fr.refl _ _ | with_reducible assumption | with_reducible refine Fr.setCell ?_ (Or.inr (by (first | with_reducible exact Nat.le_refl _ | (simp; done) | omega | (simp; omega)))) _ | with_reducible refine Fr.alloc ?_ _ | with_reducible refine Fr.drew ?_ | with_reducible refine Fr.drewN ?_ _ | (with_reducible refine Fr.then ?_ (by with_reducible assumption))))⟩

theorem needs_else (k : Int) (w : World) (h1 : k ≠ 1) (h2 : k ≠ 2) (h3 : k ≠ 3) (h4 : k ≠ 4) (h5 : k ≠ 5) (h6 : k ≠ 6) (h7 : k ≠ 7) (h8 : k ≠ 8) (h9 : k ≠ 9) (h10 : k ≠ 10) (h11 : k ≠ 11) (h12 : k ≠ 12) :
    Calls Tryz.prog 15 #[.int .i64 k] w fun e w' => e = .returned (laneV false false false) ∧ Fr No w w' := by
  have e1 : (k == 1) = false := by simpa using h1
  have e2 : (k == 2) = false := by simpa using h2
  have e3 : (k == 3) = false := by simpa using h3
  have e4 : (k == 4) = false := by simpa using h4
  have e5 : (k == 5) = false := by simpa using h5
  have e6 : (k == 6) = false := by simpa using h6
  have e7 : (k == 7) = false := by simpa using h7
  have e8 : (k == 8) = false := by simpa using h8
  have e9 : (k == 9) = false := by simpa using h9
  have e10 : (k == 10) = false := by simpa using h10
  have e11 : (k == 11) = false := by simpa using h11
  have e12 : (k == 12) = false := by simpa using h12
  clear h1 h2 h3 h4 h5 h6 h7 h8 h9 h10 h11 h12
  go_enter Tryz.func15, Tryz.ntmps15
  go_wp2_with fail
  go_returns
  exact ⟨rfl, by (repeat' (first | with_reducible exact Fr.refl _ _ | with_reducible assumption | with_reducible refine Fr.setCell ?_ (Or.inr (by (first | with_reducible exact Nat.le_refl _ | (simp; done) | omega | (simp; omega)))) _ | with_reducible refine Fr.alloc ?_ _ | with_reducible refine Fr.drew ?_ | with_reducible refine Fr.drewN ?_ _ | (with_reducible refine Fr.then ?_ (by with_reducible assumption))))⟩

theorem needs_any (k : Int) (w : World) : Calls Tryz.prog 15 #[.int .i64 k] w fun e w' => e = .returned (needs k).v ∧ Fr No w w' := by
  unfold needs Lane.v
  by_cases h1 : k = 1
  · subst h1; exact needs_1 w
  by_cases h3 : k = 3
  · subst h3; exact needs_3 w
  by_cases h4 : k = 4
  · subst h4; exact needs_4 w
  by_cases h2 : k = 2
  · subst h2; exact needs_2 w
  by_cases h5 : k = 5
  · subst h5; exact needs_5 w
  by_cases h7 : k = 7
  · subst h7; exact needs_7 w
  by_cases h8 : k = 8
  · subst h8; exact needs_8 w
  by_cases h9 : k = 9
  · subst h9; exact needs_9 w
  by_cases h6 : k = 6
  · subst h6; exact needs_6 w
  by_cases h11 : k = 11
  · subst h11; exact needs_11 w
  by_cases h10 : k = 10
  · subst h10; exact needs_10 w
  by_cases h12 : k = 12
  · subst h12; exact needs_12 w
  simp only [h1, h2, h3, h4, h5, h6, h7, h8, h9, h10, h11, h12, or_self, if_false]
  exact needs_else k w h1 h2 h3 h4 h5 h6 h7 h8 h9 h10 h11 h12

def Lane.next (l : Lane) (k : Nat) : Nat := if k = 0 ∧ l.a then 0 else if k ≤ 1 ∧ l.b then 1 else if k ≤ 2 ∧ l.c then 2 else 3
theorem next_any2 (l : Lane) (k : Nat) (w : World) (hk : k ≤ 3) : Calls Tryz.prog 75 #[l.v, .int .i64 k] w fun e w' => e = .returned (.int .i64 (l.next k)) ∧ Fr No w w' ∧ w.heap.size < w'.heap.size := by
  obtain ⟨a, b, c⟩ := l
  unfold Lane.v Lane.next
  obtain rfl | rfl | rfl | rfl : k = 0 ∨ k = 1 ∨ k = 2 ∨ k = 3 := by omega
  all_goals
    cases a <;> cases b <;> cases c
    all_goals
      go_enter Tryz.func75, Tryz.ntmps75
      go_wp2
      go_rounds 4
      go_returns
      exact ⟨rfl, by (repeat' (first | with_reducible exact Fr.refl _ _ | with_reducible assumption | with_reducible refine Fr.setCell ?_ (Or.inr (by (first | with_reducible exact Nat.le_refl _ | (simp; done) | omega | (simp; omega)))) _ | with_reducible refine Fr.alloc ?_ _ | with_reducible refine Fr.drew ?_ | with_reducible refine Fr.drewN ?_ _ | (with_reducible refine Fr.then ?_ (by with_reducible assumption)))), by simp⟩
theorem next_any (l : Lane) (k : Nat) (w : World) (hk : k ≤ 3) : Calls Tryz.prog 75 #[l.v, .int .i64 k] w fun e w' => e = .returned (.int .i64 (l.next k)) ∧ Fr No w w' :=
  (next_any2 l k w hk).mono fun _ _ h => ⟨h.1, h.2.1⟩

def Lane.len (l : Lane) : Int := (if l.a then 1 else 0) + (if l.b then 1 else 0) + (if l.c then 1 else 0)
theorem len_any (l : Lane) (w : World) : Calls Tryz.prog 18 #[l.v] w fun e w' => e = .returned (.int .i64 l.len) ∧ Fr No w w' := by
  obtain ⟨a, b, c⟩ := l
  unfold Lane.v Lane.len
  have i0 : ∀ w, (Instr.index 31 (.agg #[.bool a, .bool b, .bool c]) (.int .i64 0)).run Tryz.prog w = .ok (.bool a) w := fun _ => by kernel_rfl
  have i1 : ∀ w, (Instr.index 31 (.agg #[.bool a, .bool b, .bool c]) (.int .i64 1)).run Tryz.prog w = .ok (.bool b) w := fun _ => by kernel_rfl
  have i2 : ∀ w, (Instr.index 31 (.agg #[.bool a, .bool b, .bool c]) (.int .i64 2)).run Tryz.prog w = .ok (.bool c) w := fun _ => by kernel_rfl
  cases a <;> cases b <;> cases c
  all_goals
    go_enter Tryz.func18, Tryz.ntmps18
    go_wp2
    go_rounds 4
    go_returns
    exact ⟨rfl, by (repeat' (first | with_reducible exact Fr.refl _ _ | with_reducible assumption | with_reducible refine Fr.setCell ?_ (Or.inr (by (first | with_reducible exact Nat.le_refl _ | (simp; done) | omega | (simp; omega)))) _ | with_reducible refine Fr.alloc ?_ _ | with_reducible refine Fr.drew ?_ | with_reducible refine Fr.drewN ?_ _ | (with_reducible refine Fr.then ?_ (by with_reducible assumption))))⟩

def isKind (k : Int) : Bool := decide (1 ≤ k) && decide (k ≤ 13)
theorem is_any (k : Int) (w : World) : Calls Tryz.prog 115 #[.int .i64 k] w fun e w' => e = .returned (.bool (isKind k)) ∧ w = w' := by
  unfold isKind
  by_cases h : 1 ≤ k
  · have h1 : decide (1 ≤ k) = true := by simpa using h
    rw [h1]
    go_enter Tryz.func115, Tryz.ntmps115
    go_wp2
    go_ret
    exact ⟨by simp, rfl⟩
  · have h1 : decide (1 ≤ k) = false := by simpa using h
    rw [h1]
    go_enter Tryz.func115, Tryz.ntmps115
    go_wp2
    go_ret
    exact ⟨by simp, rfl⟩

end Go.Proofs.YtbbbodfikgdhcaaGreatDoor
