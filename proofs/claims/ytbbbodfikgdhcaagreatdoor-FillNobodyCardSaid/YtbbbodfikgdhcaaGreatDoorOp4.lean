/- Contracts of package op: what a client asked for. -/
import Derived.Test.YtbbbodfikgdhcaaGreatDoorOp3
namespace Go.Proofs.YtbbbodfikgdhcaaGreatDoor
open Go Go.RowKit

/-- What a client asked for, behind `b`: its hand behind `hb`. -/
def OpAt (w : World) (b hb : Nat) (r : Req) : Prop := Blk w b 96 #[.pointer (some ⟨hb, 0, none⟩), .int .i64 r.kind, .int .i64 r.id, .int .i64 r.user, .int .i64 r.width, .int .i64 r.limit, .int .i64 r.prio, .bool r.held, .int .i64 r.node, .int .i64 r.by_]
theorem OpAt.fr {F : Nat → Prop} {w w' : World} {b hb : Nat} {r : Req} (h : OpAt w b hb r) (hf : Fr F w w') (hn : ¬ F b) : OpAt w' b hb r := Blk.fr h hf hn
theorem OpAt.hand {w : World} {b hb : Nat} {r : Req} (h : OpAt w b hb r) : w.cell? ⟨b, 0, none⟩ = some (.pointer (some ⟨hb, 0, none⟩)) := by unfold OpAt at h; rw [h.cell]; rfl

theorem opNew (r : Req) (who : Int) (w : World) : Calls Tryz.prog 44 #[r.v, .int .i64 who] w fun e w' => ∃ b hb wb, e = .returned (.pointer (some ⟨b, 0, none⟩)) ∧ OpAt w' b hb r.clean ∧ HdAt w' hb (.new wb who (needs r.kind)) ∧ WkAt w' wb (.ofReq r.clean) ∧
    w.heap.size ≤ b ∧ w.heap.size ≤ hb ∧ w.heap.size ≤ wb ∧ Fr No w w' := by
  go_enter Tryz.func44, Tryz.ntmps44
  go_wp2_with fail
  go_region_held3 (fun w' => w'.cell? ⟨w.heap.size, 0, none⟩ = some (.int .i64 r.kind) ∧ w'.cell? ⟨w.heap.size, 1, none⟩ = some (.int .i64 r.id) ∧ w'.cell? ⟨w.heap.size, 2, none⟩ = some (.int .i64 r.user) ∧ w'.cell? ⟨w.heap.size, 3, none⟩ = some (.int .i64 r.width) ∧ w'.cell? ⟨w.heap.size, 4, none⟩ = some (.int .i64 r.limit) ∧ w'.cell? ⟨w.heap.size, 5, none⟩ = some (.int .i64 r.prio) ∧ w'.cell? ⟨w.heap.size, 6, none⟩ = some (.bool r.held) ∧ w'.cell? ⟨w.heap.size, 7, none⟩ = some (.int .i64 r.node) ∧ w'.cell? ⟨w.heap.size, 8, none⟩ = some (.int .i64 r.by_)) (go_keep)
    (first
      | (go_at_call 17; refine (newWork r _).mono ?_; rintro e w1 ⟨wb, rfl, hw, hz1, hf1⟩; obtain ⟨q1, q2, q3⟩ := ownNo (Blk.drew (Blk.new w 23 #[.int .i64 r.kind, .int .i64 r.id, .int .i64 r.user, .int .i64 r.width, .int .i64 r.limit, .int .i64 r.prio, .bool r.held, .int .i64 r.node, .int .i64 r.by_])) hf1; have hw := Lib.hid hw)
      | (go_at_call 15; refine (needs_any r.kind _).mono ?_; rintro e w2 ⟨rfl, hf2⟩; obtain ⟨q4, q5, q6⟩ := ownNo (Blk.drew (Blk.new w 23 #[.int .i64 r.kind, .int .i64 r.id, .int .i64 r.user, .int .i64 r.width, .int .i64 r.limit, .int .i64 r.prio, .bool r.held, .int .i64 r.node, .int .i64 r.by_])) (hf1.then hf2); clear q1 q2)
      | (go_at_call 16; refine (newHand wb who (needs r.kind) _).mono ?_; rintro e w3 ⟨hb, rfl, hh, hz3, hf3⟩; obtain ⟨q7, q8, q9⟩ := ownNo (Blk.drew (Blk.new w 23 #[.int .i64 r.kind, .int .i64 r.id, .int .i64 r.user, .int .i64 r.width, .int .i64 r.limit, .int .i64 r.prio, .bool r.held, .int .i64 r.node, .int .i64 r.by_])) ((hf1.then hf2).then hf3); clear q4 q5; have hh := Lib.hid hh)
      | (go_at_call 62; refine (clean_any r _).mono ?_; rintro e w4 ⟨rfl, hf4⟩; obtain ⟨q10, q11, q12⟩ := ownNo (Blk.drew (Blk.new w 23 #[.int .i64 r.kind, .int .i64 r.id, .int .i64 r.user, .int .i64 r.width, .int .i64 r.limit, .int .i64 r.prio, .bool r.held, .int .i64 r.node, .int .i64 r.by_])) (((hf1.then hf2).then hf3).then hf4); clear q7 q8))
  rename_i hHeld
  clear hHeld q10 q11
  simp at hz1
  go_wp2_with fail
  go_ret
  have z1 := hf1.size
  have z2 := hf2.size
  have z3 := hf3.size
  have z4 := hf4.size
  simp at z1
  refine ⟨w4.heap.size, hb, wb, rfl, Blk.new _ _ _, (hh.out.fr hf4 id).fr (F := No) (by (repeat' (first | with_reducible exact Fr.refl _ _ | with_reducible assumption | with_reducible refine Fr.setCell ?_ (Or.inr (by (first | with_reducible exact Nat.le_refl _ | (simp; done) | omega | (simp; omega)))) _ | with_reducible refine Fr.alloc ?_ _ | with_reducible refine Fr.drew ?_ | with_reducible refine Fr.drewN ?_ _ | (with_reducible refine Fr.then ?_ (by with_reducible assumption))))) id, (((hw.out.fr hf2 id).fr hf3 id).fr hf4 id).fr (F := No) (by (repeat' (first | with_reducible exact Fr.refl _ _ | with_reducible assumption | with_reducible refine Fr.setCell ?_ (Or.inr (by (first | with_reducible exact Nat.le_refl _ | (simp; done) | omega | (simp; omega)))) _ | with_reducible refine Fr.alloc ?_ _ | with_reducible refine Fr.drew ?_ | with_reducible refine Fr.drewN ?_ _ | (with_reducible refine Fr.then ?_ (by with_reducible assumption))))) id, by omega, by omega, by omega, ?_⟩
  exact (((((Fr.refl No w).alloc _).drew.then hf1).then hf2).then hf3 |>.then hf4).alloc _

theorem fin_any (b hb : Nat) (r : Req) (h : Hd) (w : World) (ho : OpAt w b hb r) (hx : HdAt w hb h) : Calls Tryz.prog 20 #[.pointer (some ⟨b, 0, none⟩)] w fun e w' => e = .returned (.bool (h.stage == 5)) ∧ w = w' := by
  have c0 := ho.hand
  have Hx := Lib.hid hx
  clear ho hx
  go_enter Tryz.func20, Tryz.ntmps20
  go_wp2_with fail
  refine (stage_any hb h _ Hx.out).mono ?_
  rintro e w1 ⟨rfl, rfl⟩
  go_wp2_with fail
  go_ret
  exact ⟨rfl, rfl⟩
theorem fin_nil (w : World) : Calls Tryz.prog 20 #[.pointer none] w fun e w' => e = .returned (.bool true) ∧ w = w' := by
  go_enter Tryz.func20, Tryz.ntmps20
  go_wp2
  go_ret
  exact ⟨rfl, rfl⟩
theorem req_nil (w : World) : Calls Tryz.prog 21 #[.pointer none] w fun e w' => e = .returned Req.zero.v ∧ Fr No w w' := by
  go_enter Tryz.func21, Tryz.ntmps21
  go_wp2
  refine bodyPost_ret (by (simp [results, Tryz.results21, go_sem, *]; try rfl)) rfl ?_
  exact ⟨rfl, by (repeat' (first | with_reducible exact Fr.refl _ _ | with_reducible assumption | with_reducible refine Fr.setCell ?_ (Or.inr (by (first | with_reducible exact Nat.le_refl _ | (simp; done) | omega | (simp; omega)))) _ | with_reducible refine Fr.alloc ?_ _ | with_reducible refine Fr.drew ?_ | with_reducible refine Fr.drewN ?_ _ | (with_reducible refine Fr.then ?_ (by with_reducible assumption))))⟩
end Go.Proofs.YtbbbodfikgdhcaaGreatDoor
