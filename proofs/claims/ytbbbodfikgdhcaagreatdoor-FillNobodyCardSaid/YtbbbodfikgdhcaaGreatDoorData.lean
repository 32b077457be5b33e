/- The data of requests, replies, jobs and works as Lean has them, and how they lie in memory. -/
import Derived.Test.YtbbbodfikgdhcaaGreatDoorProg
import Derived.Test.YtbbbodfikgdhcaaGreatDoorBase
import Derived.Test.YtbbbodfikgdhcaaGreatDoorDefs
namespace Go.Proofs.YtbbbodfikgdhcaaGreatDoor
open Go Go.RowKit

abbrev Req.v (r : Req) : Value := .agg #[.int .i64 r.kind, .int .i64 r.id, .int .i64 r.user, .int .i64 r.width, .int .i64 r.limit, .int .i64 r.prio, .bool r.held, .int .i64 r.node, .int .i64 r.by_]
abbrev Rep.v (r : Rep) : Value := .agg #[.int .i64 r.err, .int .i64 r.id, .int .i64 r.state, .int .i64 r.start, .int .i64 r.end_, .int .i64 r.plan, .int .i64 r.a, .int .i64 r.b, .int .i64 r.c]
abbrev Job.v (j : Job) : Value := .agg #[.int .i64 j.id, .int .i64 j.user, .int .i64 j.width, .int .i64 j.limit, .int .i64 j.prio, .int .i64 j.state, .int .i64 j.start, .int .i64 j.end_, .int .i64 j.plan, .int .u64 (j.nodes.toNat : Int)]
def Wk.cells (x : Wk) : Array Value := #[.int .i64 x.req.kind, .int .i64 x.req.id, .int .i64 x.req.user, .int .i64 x.req.width, .int .i64 x.req.limit, .int .i64 x.req.prio, .bool x.req.held, .int .i64 x.req.node, .int .i64 x.req.by_,
  .int .i64 x.cid, .int .i64 x.cat, .bool x.commit,
  .int .i64 x.rep.err, .int .i64 x.rep.id, .int .i64 x.rep.state, .int .i64 x.rep.start, .int .i64 x.rep.end_, .int .i64 x.rep.plan, .int .i64 x.rep.a, .int .i64 x.rep.b, .int .i64 x.rep.c,
  .int .i64 x.part, .bool x.done, .bool x.ok,
  .int .i64 x.job.id, .int .i64 x.job.user, .int .i64 x.job.width, .int .i64 x.job.limit, .int .i64 x.job.prio, .int .i64 x.job.state, .int .i64 x.job.start, .int .i64 x.job.end_, .int .i64 x.job.plan, .int .u64 (x.job.nodes.toNat : Int),
  .int .i64 x.back, .int .i64 x.to]

/-- The work behind `b`. -/
def WkAt (w : World) (b : Nat) (x : Wk) : Prop := Blk w b 145 x.cells
theorem WkAt.fr {F : Nat → Prop} {w w' : World} {b : Nat} {x : Wk} (h : WkAt w b x) (hf : Fr F w w') (hn : ¬ F b) : WkAt w' b x := Blk.fr h hf hn
theorem WkAt.lt {w : World} {b : Nat} {x : Wk} (h : WkAt w b x) : b < w.heap.size := Blk.lt h
theorem WkAt.froz {w : World} {b : Nat} {x : Wk} (h : WkAt w b x) : ∀ o, w.frozen? ⟨b, o, none⟩ = false := Blk.frozen h
/-- One cell of a work. -/
theorem WkAt.at_ {w : World} {b : Nat} {x : Wk} (h : WkAt w b x) (o : Nat) : w.cell? ⟨b, o, none⟩ = x.cells[o]? := Blk.cell h o
theorem WkAt.all {w : World} {b : Nat} {x : Wk} (h : WkAt w b x) : ∀ o, o < 36 → (w.cell? ⟨b, o, none⟩).isSome = true := fun o ho => by
  rw [h.at_, Array.getElem?_eq_getElem (by simpa [Wk.cells] using ho)]; rfl

set_option maxHeartbeats 1000000 in
theorem clean_any (r : Req) (w : World) : Calls Tryz.prog 62 #[r.v] w fun e w' => e = .returned r.clean.v ∧ Fr No w w' := by
  obtain ⟨k, id, user, width, limit, prio, held, node, by_⟩ := r
  by_cases h : 1 ≤ k ∧ k ≤ 9
  · obtain rfl | h2 : k = 1 ∨ 2 ≤ k := by omega
    · clear h
      go_enter Tryz.func62, Tryz.ntmps62
      go_wp2
      go_region
      go_wp2
      refine bodyPost_ret (by (simp [results, Tryz.results62, go_sem, *]; try rfl)) rfl ?_
      exact ⟨rfl, by (repeat' (first | with_reducible exact Fr.refl _ _ | with_reducible assumption | with_reducible refine Fr.setCell ?_ (Or.inr (by (first | with_reducible exact Nat.le_refl _ | (simp; done) | omega | (simp; omega)))) _ | with_reducible refine Fr.alloc ?_ _ | with_reducible refine Fr.drew ?_ | with_reducible refine Fr.drewN ?_ _ | (with_reducible refine Fr.then ?_ (by with_reducible assumption))))⟩
    · obtain rfl | rfl | rfl | rfl | rfl | rfl | rfl | rfl : k = 2 ∨ k = 3 ∨ k = 4 ∨ k = 5 ∨ k = 6 ∨ k = 7 ∨ k = 8 ∨ k = 9 := by omega
      all_goals
        clear h h2
        go_enter Tryz.func62, Tryz.ntmps62
        go_wp2
        refine bodyPost_ret (by (simp [results, Tryz.results62, go_sem, *]; try rfl)) rfl ?_
        exact ⟨rfl, by (repeat' (first | with_reducible exact Fr.refl _ _ | with_reducible assumption | with_reducible refine Fr.setCell ?_ (Or.inr (by (first | with_reducible exact Nat.le_refl _ | (simp; done) | omega | (simp; omega)))) _ | with_reducible refine Fr.alloc ?_ _ | with_reducible refine Fr.drew ?_ | with_reducible refine Fr.drewN ?_ _ | (with_reducible refine Fr.then ?_ (by with_reducible assumption))))⟩
  · have hc : Req.clean ⟨k, id, user, width, limit, prio, held, node, by_⟩ = ⟨k, 0, 0, 0, 0, 0, false, 0, 0⟩ := by
      unfold Req.clean
      simp only
      rw [if_neg (by omega), if_neg (by omega), if_neg (by omega), if_neg (by omega)]
      rfl
    rw [hc]
    clear hc
    have e1 : (k == 1) = false := beq_eq_false_iff_ne.2 (by omega)
    have e2 : (k == 2) = false := beq_eq_false_iff_ne.2 (by omega)
    have e3 : (k == 3) = false := beq_eq_false_iff_ne.2 (by omega)
    have e4 : (k == 4) = false := beq_eq_false_iff_ne.2 (by omega)
    have e5 : (k == 5) = false := beq_eq_false_iff_ne.2 (by omega)
    have e6 : (k == 6) = false := beq_eq_false_iff_ne.2 (by omega)
    have e7 : (k == 7) = false := beq_eq_false_iff_ne.2 (by omega)
    have e8 : (k == 8) = false := beq_eq_false_iff_ne.2 (by omega)
    have e9 : (k == 9) = false := beq_eq_false_iff_ne.2 (by omega)
    clear h
    go_enter Tryz.func62, Tryz.ntmps62
    go_wp2
    refine bodyPost_ret (by (simp [results, Tryz.results62, go_sem, *]; try rfl)) rfl ?_
    exact ⟨rfl, by (repeat' (first | with_reducible exact Fr.refl _ _ | with_reducible assumption | with_reducible refine Fr.setCell ?_ (Or.inr (by (first | with_reducible exact Nat.le_refl _ | (simp; done) | omega | (simp; omega)))) _ | with_reducible refine Fr.alloc ?_ _ | with_reducible refine Fr.drew ?_ | with_reducible refine Fr.drewN ?_ _ | (with_reducible refine Fr.then ?_ (by with_reducible assumption))))⟩

theorem newWork (r : Req) (w : World) : Calls Tryz.prog 17 #[r.v] w fun e w' => ∃ b, e = .returned (.pointer (some ⟨b, 0, none⟩)) ∧ WkAt w' b (.ofReq r.clean) ∧ w.heap.size ≤ b ∧ Fr No w w' := by
  go_enter Tryz.func17, Tryz.ntmps17
  go_wp2_with fail
  refine (clean_any r _).mono ?_
  rintro e w1 ⟨rfl, hf⟩
  have hz := hf.size
  simp at hz
  go_wp2_with fail
  go_ret
  exact ⟨w1.heap.size, rfl, Blk.new _ _ _, by omega, by (repeat' (first | with_reducible exact Fr.refl _ _ | with_reducible assumption | with_reducible refine Fr.setCell ?_ (Or.inr (by (first | with_reducible exact Nat.le_refl _ | (simp; done) | omega | (simp; omega)))) _ | with_reducible refine Fr.alloc ?_ _ | with_reducible refine Fr.drew ?_ | with_reducible refine Fr.drewN ?_ _ | (with_reducible refine Fr.then ?_ (by with_reducible assumption))))⟩
end Go.Proofs.YtbbbodfikgdhcaaGreatDoor
