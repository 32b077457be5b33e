/- Contracts of a pass's parts where nothing waits: no jobs in order, no items, a planner of none. -/
import Derived.Test.YtbbbodfikgdhcaaGreatDoorProf3
import Derived.Test.YtbbbodfikgdhcaaGreatDoorJobs3
import Derived.Deep.QuietTactic
import Derived.BigQuiet
namespace Go.Proofs.YtbbbodfikgdhcaaGreatDoor
open Go Go.RowKit

theorem insSort0 (ao : Option Addr) (cap : Nat) (f : Value) (w : World) : Calls Tryz.prog 230 #[.slice ao 0 cap, .int .i64 0, .int .i64 0, f] w fun e w' => e = .returned (.tuple #[]) ∧ w = w' := by
  go_enter Tryz.func230, Tryz.ntmps230
  go_wp2_with fail
  refine wp_loop_rounds 1 ?_
  rw [rounds_succ]
  go_wp2_with fail
  go_end0
  exact ⟨rfl, rfl⟩

theorem stable0 (ao : Option Addr) (cap : Nat) (f : Value) (w : World) : Calls Tryz.prog 169 #[.slice ao 0 cap, f] w fun e w' => e = .returned (.tuple #[]) ∧ w = w' := by
  have h2 : ∀ w, Calls Tryz.prog 209 #[.slice ao 0 cap, .int .i64 0, f] w fun e w' => e = .returned (.tuple #[]) ∧ w = w' := by
    intro w
    go_enter Tryz.func209, Tryz.ntmps209
    go_wp2_with fail
    refine wp_loop_rounds 1 ?_
    rw [rounds_succ]
    go_wp2_with fail
    refine (insSort0 ao cap f _).mono ?_
    rintro e w1 ⟨rfl, rfl⟩
    go_wp2_with fail
    refine wp_loop_rounds 1 ?_
    rw [rounds_succ]
    go_wp2_with fail
    go_end0
    exact ⟨rfl, rfl⟩
  have H2 := Lib.hid h2
  clear h2
  go_enter Tryz.func169, Tryz.ntmps169
  go_wp2_with fail
  refine (H2.out _).mono ?_
  rintro e w1 ⟨rfl, rfl⟩
  go_wp2_with fail
  go_end0
  exact ⟨rfl, rfl⟩

/-- Nothing in order is nothing. -/
theorem sort0 (v : Value) (w : World) (h : w.ownsRow 0 89 10 v 0 []) : Calls Tryz.prog 130 #[v] w fun e w' => ∃ ao cap, e = .returned (.slice ao 0 cap) ∧ Fr No w w' := by
  have H := Lib.hid h
  clear h
  go_enter Tryz.func130, Tryz.ntmps130
  go_wp2_with fail
  refine (cloneJob v 0 [] _ H.out (by simp) (by decide)).mono ?_
  rintro e w1 ⟨v', rfl, ho, hf⟩
  obtain ⟨ao, cap, rfl⟩ := own_slice ho
  have Hf := Lib.hid hf
  clear ho hf
  go_wp2_with fail
  refine (stable0 ao cap _ _).mono ?_
  rintro e w2 ⟨rfl, rfl⟩
  go_wp2_with fail
  go_ret
  exact ⟨ao, cap, rfl, Hf.out⟩

theorem waiting0 (b : Nat) (v : Value) (l : List Job) (live : Int) (w : World) (h : JobsAt w b v l live) (hn : l.length ≤ 1048576) (h0 : inStates l [1] = []) :
    Calls Tryz.prog 87 #[.pointer (some ⟨b, 0, none⟩)] w fun e w' => ∃ ao cap, e = .returned (.slice ao 0 cap) ∧ Fr No w w' := by
  have H := Lib.hid h
  have H0 := Lib.hid h0
  clear h h0
  go_enter Tryz.func87, Tryz.ntmps87
  go_wp2_with fail
  have hf0 := (Fr.refl No w).alloc (.cells #[.int .i64 1] 3)
  refine (jin b v l live w.heap.size 1 [1] _ (H.out.fr hf0 id (fun _ _ => id)) hn (by decide) (by decide) (by simp) (one_int (Blk.new _ _ _))).mono ?_
  rintro e w1 ⟨v1, rfl, ho1, hf1⟩
  rw [H0.out] at ho1
  have Ho := Lib.hid (own_mono (base' := 0) ho1 (Nat.zero_le _))
  have Hf := Lib.hid (hf0.then hf1)
  clear ho1 hf1 hf0
  go_wp2_with fail
  refine (sort0 v1 _ Ho.out).mono ?_
  rintro e w2 ⟨ao, cap, rfl, hf2⟩
  go_wp2_with fail
  go_ret
  exact ⟨ao, cap, rfl, Hf.out.then hf2⟩

theorem items0 (ao : Option Addr) (cap : Nat) (w : World) : Calls Tryz.prog 86 #[.slice ao 0 cap] w fun e w' => e = .returned (.slice none 0 0) ∧ w = w' := by
  go_enter Tryz.func86, Tryz.ntmps86
  go_wp2_with fail
  refine wp_loop_rounds 1 ?_
  rw [rounds_succ]
  go_wp2_with fail
  go_ret
  exact ⟨rfl, rfl⟩

theorem containsItem0 (f : Value) (w : World) : Calls Tryz.prog 135 #[.slice none 0 0, f] w fun e w' => e = .returned (.bool false) ∧ w = w' := by
  have h2 : ∀ w, Calls Tryz.prog 173 #[.slice none 0 0, f] w fun e w' => e = .returned (.int .i64 (-1)) ∧ w = w' := by
    intro w
    go_enter Tryz.func173, Tryz.ntmps173
    go_wp2_with fail
    refine wp_loop_rounds 1 ?_
    rw [rounds_succ]
    go_wp2_with fail
    go_ret
    exact ⟨rfl, rfl⟩
  have H2 := Lib.hid h2
  clear h2
  go_enter Tryz.func135, Tryz.ntmps135
  go_wp2_with fail
  refine (H2.out _).mono ?_
  rintro e w1 ⟨rfl, rfl⟩
  go_wp2_with fail
  go_ret
  exact ⟨rfl, rfl⟩

/-- A planner: its profile, its items, where it is, what it has chosen. -/
def PlanAt (w : World) (b p : Nat) (its : Value) (at_ : Int) (out : Value) : Prop := Blk w b 208 #[.pointer (some ⟨p, 0, none⟩), its, .int .i64 at_, out]
theorem PlanAt.fr {F : Nat → Prop} {w w' : World} {b p : Nat} {its out : Value} {at_ : Int} (h : PlanAt w b p its at_ out) (hf : Fr F w w') (hn : ¬ F b) : PlanAt w' b p its at_ out := Blk.fr h hf hn
theorem PlanAt.facts {w : World} {b p : Nat} {its out : Value} {at_ : Int} (h : PlanAt w b p its at_ out) : w.cell? ⟨b, 0, none⟩ = some (.pointer (some ⟨p, 0, none⟩)) ∧ w.cell? ⟨b, 1, none⟩ = some its ∧ w.cell? ⟨b, 2, none⟩ = some (.int .i64 at_) ∧ w.cell? ⟨b, 3, none⟩ = some out ∧
    (∀ o, w.frozen? ⟨b, o, none⟩ = false) ∧ b < w.heap.size := by
  unfold PlanAt at h
  exact ⟨by rw [h.cell]; rfl, by rw [h.cell]; rfl, by rw [h.cell]; rfl, by rw [h.cell]; rfl, h.frozen, h.lt⟩

theorem planNew0 (p g : Nat) (S : List Step) (ver : Int) (depth : Int) (hd : 1 ≤ depth ∧ depth ≤ 64) (w : World) (h : ProfAt w p g S ver) (hok : POk S) :
    Calls Tryz.prog 100 #[.pointer (some ⟨p, 0, none⟩), .int .i64 depth, .slice none 0 0] w fun e w' => ∃ b p' g' ao cap, e = .returned (.tuple #[.pointer (some ⟨b, 0, none⟩), .int .i64 0]) ∧ PlanAt w' b p' (.slice ao 0 cap) 0 (.slice none 0 0) ∧ ProfAt w' p' g' S ver ∧ w.heap.size ≤ b ∧ w.heap.size ≤ p' ∧ w.heap.size ≤ g' ∧ Fr No w w' := by
  have H := Lib.hid h
  have Hok := Lib.hid hok
  clear h hok
  obtain ⟨d1, d2⟩ := hd
  go_enter Tryz.func100, Tryz.ntmps100
  go_wp2_with fail
  refine (pcopy p g S ver _ H.out Hok.out).mono ?_
  rintro e w1 ⟨p1, g1, rfl, hp1, hz1, hz2, hf1⟩
  have HF1 := Lib.hid hf1
  clear hp1 hz1 hz2 hf1
  go_wp2_with fail
  refine (containsItem0 _ _).mono ?_
  rintro e w2 ⟨rfl, rfl⟩
  go_wp2_with fail
  refine (pcopy p g S ver _ (H.out.fr HF1.out id id) Hok.out).mono ?_
  rintro e w2 ⟨p2, g2, rfl, hp2, hz1, hz2, hf2⟩
  have HF2 := Lib.hid (HF1.out.then hf2)
  have HP2 := Lib.hid hp2
  have hs1 := HF1.out.size
  have hs2 := hf2.size
  clear hp2 hf2
  go_wp2_with fail
  refine (cloneItem (.slice none 0 0) 0 [] _ (World.ownsRow_nil _ _ _ _) (by simp) (by decide)).mono ?_
  rintro e w3 ⟨v', rfl, ho, hf3⟩
  obtain ⟨ao, cap, rfl⟩ := own_slice ho
  have hs3 := hf3.size
  have HF3 := Lib.hid (HF2.out.then hf3)
  have HP3 := Lib.hid (HP2.out.fr hf3 id id)
  clear ho hf3
  go_wp2_with fail
  go_ret2
  exact ⟨w3.heap.size, p2, g2, ao, cap, rfl, Blk.new _ _ _, HP3.out.fr (F := No) ((Fr.refl _ _).alloc _) id id, by omega, by omega, by omega, HF3.out.alloc _⟩

theorem plnone (b p : Nat) (its out : Value) (at_ : Int) (w : World) (h : PlanAt w b p its at_ out) : Calls Tryz.prog 139 #[.pointer (some ⟨b, 0, none⟩)] w fun e w' => e = .returned (.bool false) ∧ w = w' := by
  obtain ⟨c0, c1, c2, c3, c4, c5⟩ := h.facts
  clear h
  go_enter Tryz.func139, Tryz.ntmps139
  go_wp2
  go_ret
  exact ⟨rfl, rfl⟩

theorem next0 (b p : Nat) (ao : Option Addr) (cap : Nat) (out : Value) (n : Int) (hn : 1 ≤ n) (w : World) (h : PlanAt w b p (.slice ao 0 cap) 0 out) : Calls Tryz.prog 101 #[.pointer (some ⟨b, 0, none⟩), .int .i64 n] w fun e w' => e = .returned (.int .i64 0) ∧ Fr No w w' := by
  obtain ⟨c0, c1, c2, c3, c4, c5⟩ := h.facts
  have H := Lib.hid h
  clear h
  have h0 : (0 : Int) < n := by omega
  go_enter Tryz.func101, Tryz.ntmps101
  go_wp2_with fail
  refine (plnone b p _ _ _ _ H.out).mono ?_
  rintro e w1 ⟨rfl, rfl⟩
  go_wp2_with fail
  refine wp_loop_rounds 1 ?_
  rw [rounds_succ]
  go_wp2_with fail
  go_quiet (fail)
  go_wp2_with fail
  go_ret
  exact ⟨rfl, (Fr.refl No w).drewN _⟩

theorem left0 (b p : Nat) (ao : Option Addr) (cap : Nat) (out : Value) (w : World) (h : PlanAt w b p (.slice ao 0 cap) 0 out) : Calls Tryz.prog 102 #[.pointer (some ⟨b, 0, none⟩)] w fun e w' => e = .returned (.int .i64 0) ∧ Fr No w w' := by
  obtain ⟨c0, c1, c2, c3, c4, c5⟩ := h.facts
  have H := Lib.hid h
  clear h
  go_enter Tryz.func102, Tryz.ntmps102
  go_wp2_with fail
  refine (plnone b p _ _ _ _ H.out).mono ?_
  rintro e w1 ⟨rfl, rfl⟩
  go_wp2_with fail
  go_quiet (fail)
  go_wp2_with fail
  go_ret
  exact ⟨rfl, (Fr.refl No w).drewN _⟩

theorem choices0 (b p : Nat) (its : Value) (at_ : Int) (w : World) (h : PlanAt w b p its at_ (.slice none 0 0)) : Calls Tryz.prog 103 #[.pointer (some ⟨b, 0, none⟩)] w fun e w' => ∃ ao cap, e = .returned (.slice ao 0 cap) ∧ Fr No w w' := by
  obtain ⟨c0, c1, c2, c3, c4, c5⟩ := h.facts
  have H := Lib.hid h
  clear h
  go_enter Tryz.func103, Tryz.ntmps103
  go_wp2_with fail
  refine (plnone b p _ _ _ _ H.out).mono ?_
  rintro e w1 ⟨rfl, rfl⟩
  go_wp2_with fail
  refine (cloneChoice (.slice none 0 0) 0 [] _ (World.ownsRow_nil _ _ _ _) (by simp) (by decide)).mono ?_
  rintro e w3 ⟨v', rfl, ho, hf3⟩
  obtain ⟨ao, cap, rfl⟩ := own_slice ho
  clear ho
  go_wp2_with fail
  go_ret
  exact ⟨ao, cap, rfl, hf3⟩
end Go.Proofs.YtbbbodfikgdhcaaGreatDoor
