/- Contracts of package op: a hand's steps at its locks. -/
import Derived.Test.YtbbbodfikgdhcaaGreatDoorOp1
import Derived.Deep.RegionLaw
import Derived.Deep.AppendLies
namespace Go.Proofs.YtbbbodfikgdhcaaGreatDoor
open Go Go.RowKit

theorem HdAt.neL {w : World} {b a : Nat} {h : Hd} {l : Lk} (x : HdAt w b h) (z : LockAt w a l) : b ≠ a := Blk.ne_ x z (by decide)

theorem next_succ (l : Lane) (k : Nat) (w : World) (hk : k < 3) : Calls Tryz.prog 75 #[l.v, .int .i64 ((k : Int) + 1)] w fun e w' => e = .returned (.int .i64 (l.next (k + 1))) ∧ Fr No w w' := by
  have h := next_any l (k + 1) w (by omega)
  rwa [show (((k + 1 : Nat)) : Int) = (k : Int) + 1 from by omega] at h

/-- A hand behind a lock that it has taken. -/
def Hd.took (h : Hd) (k : Nat) : Hd := { h with next := h.lane.next (k + 1), stage := if h.lane.next (k + 1) = 3 then 1 else 0 }

set_option maxRecDepth 100000 in
set_option maxHeartbeats 1000000 in
theorem step_take (b a : Nat) (h : Hd) (l : Lk) (k : Nat) (hk : k < 3) (cv : Value) (w : World) (hx : HdAt w b h) (hl : LockAt w a l) (hst : h.stage = 0) (hn : h.next = k) (hw : 1 ≤ h.who) (ho : l.own k = 0) (hh : (l.held h.who).next k = 3) :
    Calls Tryz.prog 23 #[.pointer (some ⟨b, 0, none⟩), cv, .pointer (some ⟨a, 0, none⟩)] w fun e w' => e = .returned (.bool false) ∧ HdAt w' b (h.took k) ∧ LockAt w' a { l.set k h.who with n := wrap64 (l.n + 1) } ∧ Fr (fun i => i = b ∨ i = a) w w' := by
  obtain ⟨wb, who, ⟨la, lb, lc⟩, n, st⟩ := h
  obtain rfl : n = k := hn
  obtain rfl : st = 0 := hst
  simp only at hw hh
  obtain ⟨c0, c1, c2, c3, c4, c5, c6, c7, c8⟩ := hx.facts
  have hne := hx.neL hl
  have hza := hl.facts.2.2.2.2.2
  have hn1 : ¬ One a b := hne
  have Hx := Lib.hid hx
  have Ht := Lib.hid (fun w' (h' : LockAt w' a l) => try_ok a l k hk who hw w' h' hh ho)
  have Hl := Lib.hid hl
  clear hx hl ho hh
  have Hwr := Lib.hid (show IntKind.i64.wrap ((k : Int) + 1) = (k : Int) + 1 from IntWalk.i64_in _ (by omega))
  go_enter Tryz.func23, Tryz.ntmps23
  go_wp2_with fail
  refine (stage_any b _ _ Hx.out).mono ?_
  rintro e w1 ⟨rfl, rfl⟩
  go_wp2_with fail
  go_region_held3 (fun w' => w'.cell? ⟨b, 5, none⟩ = some (.int .i64 k) ∧ w'.cell? ⟨b, 1, none⟩ = some (.int .i64 who)) (go_keep)
    (first | (go_at_call 49; refine (Ht.out _ (Hl.out.fr (F := No) (Fr.refl _ _).drew id)).mono ?_; rintro e w' ⟨rfl, hl1, hf1⟩; have hx1 := (HdAt.fr (Blk.drew Hx.out) hf1 hn1); obtain ⟨d0, d1, d2, d3, d4, d5, d6, d7, d8⟩ := hx1.facts; have hx1 := Lib.hid hx1; have hl1 := Lib.hid hl1; have hf1 := Lib.hid hf1))
  rename_i hl1 hf1 hx1 hHeld
  clear c0 c1 c2 c3 c4 c5 c6 c7 hHeld
  go_wp2_with fail
  go_region_with (first | (go_at_call 75; rw [Hwr.out]; refine (next_succ ⟨la, lb, lc⟩ k _ hk).mono ?_; rintro e w' ⟨rfl, hf⟩; obtain ⟨e0, e1, e2, e3, e4, e5, e6, e7, e8⟩ := (HdAt.fr (Blk.drew hx1.out) hf id).facts))
  all_goals
    have hf3 := hf
    clear hf d0 d1 d2 d3 d4 d5 d6 d7
    have hx3 := Lib.hid (HdAt.fr (Blk.drew hx1.out) hf3 id)
    have hl3 := Lib.hid (LockAt.fr (Blk.drew hl1.out) hf3 id)
    have hf4 : Fr (fun i => i = b ∨ i = a) w w' := ((((Fr.refl No w).drew).noThen hf1.out).drew.thenNo hf3).mono fun i _ e => .inr e
    have hf4 := Lib.hid hf4
    clear hf3
    have Hq := Lib.hid (show ∀ (n : Nat), Fr (fun i => i = b ∨ i = a) w (w'.setCell ⟨b, 5, none⟩ (.int .i64 n)) from fun n => hf4.out.setCell (.inl (.inl rfl)) _)
    by_cases h3 : Lane.next ⟨la, lb, lc⟩ (k + 1) = 3
    · have H3 := Lib.hid h3
      rw [h3]
      clear h3
      go_wp2_with fail
      go_ret
      refine ⟨rfl, ?_, (LockAt.fr (LockAt.fr hl3.out ((Fr.refl (One b) _).set1 5 _) (fun e => hne e.symm)) ((Fr.refl (One b) _).set1 6 _) (fun e => hne e.symm)), (Hq.out 3).setCell (.inl (.inl rfl)) _⟩
      unfold Hd.took
      simp only [H3.out, if_true]
      exact Blk.cast (Blk.set_ (Blk.set_ hx3.out 5 _) 6 _) (by kernel_rfl)
    · have h4 : (((Lane.next ⟨la, lb, lc⟩ (k + 1) : Nat) : Int) == 3) = false := by rw [beq_eq_false_iff_ne]; omega
      have H3 := Lib.hid h3
      clear h3
      go_wp2_with fail
      go_ret
      refine ⟨rfl, ?_, LockAt.fr hl3.out ((Fr.refl (One b) _).set1 5 _) (fun e => hne e.symm), Hq.out _⟩
      unfold Hd.took
      simp only [H3.out, if_false]
      exact Blk.cast (Blk.set_ hx3.out 5 _) (by kernel_rfl)
end Go.Proofs.YtbbbodfikgdhcaaGreatDoor
