/- Law 17's first: where work under locks begins, and that none at all is over. -/
import Derived.Test.YtbbbodfikgdhcaaGreatDoorOp5
namespace Go.Proofs.YtbbbodfikgdhcaaGreatDoor
open Go Go.RowKit

theorem Lane.len_next (l : Lane) : (l.next 0 = 3) ↔ l.len = 0 := by
  obtain ⟨a, b, c⟩ := l
  cases a <;> cases b <;> cases c <;> simp [Lane.next, Lane.len]

set_option maxHeartbeats 1000000 in
set_option maxRecDepth 100000 in
theorem opNobody17 (r : Req) (w : World) : Calls Tryz.prog 3 #[r.v] w fun e w' => e = .returned (.bool true) ∧ Fr No w w' := by
  obtain ⟨kind, id, user, width, limit, prio, held, node, by_⟩ := r
  obtain ⟨l, hn⟩ : ∃ l, needs kind = l := ⟨_, rfl⟩
  obtain ⟨la, lb, lc⟩ := l
  have Hn := Lib.hid hn
  clear hn
  have heq0 : ∀ u, (Op.equalIn 10000 23 (.agg #[.int .i64 0, .int .i64 0, .int .i64 0, .int .i64 0, .int .i64 0, .int .i64 0, .bool false, .int .i64 0, .int .i64 0]) (.agg #[.int .i64 0, .int .i64 0, .int .i64 0, .int .i64 0, .int .i64 0, .int .i64 0, .bool false, .int .i64 0, .int .i64 0])).run Tryz.prog u = .ok true u := fun _ => by kernel_rfl
  go_enter Tryz.func3, Tryz.ntmps3
  go_wp2_with fail
  refine (needs_any kind _).mono ?_
  rintro e w1 ⟨rfl, hf1⟩
  rw [Hn.out]
  simp only [Lane.v]
  have hb1 := (Blk.new w 23 #[.int .i64 kind, .int .i64 id, .int .i64 user, .int .i64 width, .int .i64 limit, .int .i64 prio, .bool held, .int .i64 node, .int .i64 by_]).alloc (.cells #[.int .i64 0, .int .i64 0, .int .i64 0, .int .i64 0] 29)
  have hk1 := (Blk.new1 w (.cells #[.int .i64 kind, .int .i64 id, .int .i64 user, .int .i64 width, .int .i64 limit, .int .i64 prio, .bool held, .int .i64 node, .int .i64 by_] 23) 29 #[.int .i64 0, .int .i64 0, .int .i64 0, .int .i64 0]).frNo hf1
  have hb1 := hb1.frNo hf1
  have hF1 := Lib.hid ((((Fr.refl No w).alloc (.cells #[.int .i64 kind, .int .i64 id, .int .i64 user, .int .i64 width, .int .i64 limit, .int .i64 prio, .bool held, .int .i64 node, .int .i64 by_] 23)).alloc (.cells #[.int .i64 0, .int .i64 0, .int .i64 0, .int .i64 0] 29)).then hf1)
  have z1 := hf1.size
  simp at z1
  clear hf1
  obtain ⟨g, hg⟩ : ∃ g, w.heap.size = g := ⟨_, rfl⟩
  rw [hg] at hb1 hk1 z1 ⊢
  have hB := Lib.hid (hb1.alloc (.cells #[.bool la, .bool lb, .bool lc] 31))
  have hK := Lib.hid (hk1.alloc (.cells #[.bool la, .bool lb, .bool lc] 31))
  have hL := Lib.hid (Blk.new w1 31 #[.bool la, .bool lb, .bool lc])
  have hF2 := Lib.hid (hF1.out.alloc (.cells #[.bool la, .bool lb, .bool lc] 31))
  clear hb1 hk1 hF1
  go_wp2_with fail
  generalize hw2 : w1.alloc (.cells #[.bool la, .bool lb, .bool lc] 31) = w2 at hB hK hL hF2 ⊢
  have q0 : w2.cell? ⟨g, 0, none⟩ = some (.int .i64 kind) := by rw [hB.out.cell]; rfl
  have q1 : w2.cell? ⟨g, 1, none⟩ = some (.int .i64 id) := by rw [hB.out.cell]; rfl
  have q2 : w2.cell? ⟨g, 2, none⟩ = some (.int .i64 user) := by rw [hB.out.cell]; rfl
  have q3 : w2.cell? ⟨g, 3, none⟩ = some (.int .i64 width) := by rw [hB.out.cell]; rfl
  have q4 : w2.cell? ⟨g, 4, none⟩ = some (.int .i64 limit) := by rw [hB.out.cell]; rfl
  have q5 : w2.cell? ⟨g, 5, none⟩ = some (.int .i64 prio) := by rw [hB.out.cell]; rfl
  have q6 : w2.cell? ⟨g, 6, none⟩ = some (.bool held) := by rw [hB.out.cell]; rfl
  have q7 : w2.cell? ⟨g, 7, none⟩ = some (.int .i64 node) := by rw [hB.out.cell]; rfl
  have q8 : w2.cell? ⟨g, 8, none⟩ = some (.int .i64 by_) := by rw [hB.out.cell]; rfl
  obtain ⟨v, hv⟩ : ∃ v, w1.heap.size = v := ⟨_, rfl⟩
  rw [hv] at hL z1 ⊢
  have r0 : w2.cell? ⟨v, 0, none⟩ = some (.bool la) := by rw [hL.out.cell]; rfl
  have r1 : w2.cell? ⟨v, 1, none⟩ = some (.bool lb) := by rw [hL.out.cell]; rfl
  have r2 : w2.cell? ⟨v, 2, none⟩ = some (.bool lc) := by rw [hL.out.cell]; rfl
  have hZ := hL.out.lt
  clear hw2
  go_region_held3 (fun w' => w'.cell? ⟨g, 0, none⟩ = some (.int .i64 kind) ∧ w'.cell? ⟨g, 1, none⟩ = some (.int .i64 id) ∧ w'.cell? ⟨g, 2, none⟩ = some (.int .i64 user) ∧ w'.cell? ⟨g, 3, none⟩ = some (.int .i64 width) ∧ w'.cell? ⟨g, 4, none⟩ = some (.int .i64 limit) ∧ w'.cell? ⟨g, 5, none⟩ = some (.int .i64 prio) ∧ w'.cell? ⟨g, 6, none⟩ = some (.bool held) ∧ w'.cell? ⟨g, 7, none⟩ = some (.int .i64 node) ∧ w'.cell? ⟨g, 8, none⟩ = some (.int .i64 by_) ∧
      w'.cell? ⟨v, 0, none⟩ = some (.bool la) ∧ w'.cell? ⟨v, 1, none⟩ = some (.bool lb) ∧ w'.cell? ⟨v, 2, none⟩ = some (.bool lc)) (go_keep)
    (first
    | (go_at_call 17; refine (newWork ⟨kind, id, user, width, limit, prio, held, node, by_⟩ _).mono ?_; rintro e w' ⟨wb, rfl, hw', hzw, hf⟩
       obtain ⟨q1, q2, q3⟩ := ownNo hB.out.drew hf; obtain ⟨r1, r2, r3⟩ := ownNo hL.out.drew hf)
    | (go_at_call 16; refine (newHand wb 1 ⟨la, lb, lc⟩ _).mono ?_; rintro e w'' ⟨hb, rfl, hh', hzh, hf2⟩
       obtain ⟨q1, q2, q3⟩ := ownNo (hB.out.drew.frNo hf) hf2; obtain ⟨r1, r2, r3⟩ := ownNo (hL.out.drew.frNo hf) hf2))
  rename_i hHeld
  clear hHeld q0 q1 q2 q3 q4 q5 q6 q7 q8 r0 r1 r2
  have hF := Lib.hid ((hF2.out.drew.then hf).then hf2)
  have hK4 := Lib.hid ((hK.out.drew.frNo hf).frNo hf2)
  have hB4 := Lib.hid ((hL.out.drew.frNo hf).frNo hf2)
  obtain ⟨c0, c1, c2⟩ : w''.cell? ⟨v, 0, none⟩ = some (.bool la) ∧ w''.cell? ⟨v, 1, none⟩ = some (.bool lb) ∧ w''.cell? ⟨v, 2, none⟩ = some (.bool lc) := by
    refine ⟨?_, ?_, ?_⟩ <;> rw [hB4.out.cell] <;> rfl
  have z4 := hB4.out.lt
  clear hf hf2 hw' hB hK hL hF2 hZ hB4
  go_wp2_with fail
  refine (len_any ⟨la, lb, lc⟩ _).mono ?_
  rintro e w5 ⟨rfl, hf5⟩
  have hs := Lane.len_next ⟨la, lb, lc⟩
  generalize Lane.len ⟨la, lb, lc⟩ = n at hs ⊢
  have hx := hh'.frNo hf5
  have hst : (Hd.new wb 1 ⟨la, lb, lc⟩).stage = if n = 0 then 1 else 0 := by simp only [Hd.new, hs]
  clear hs
  generalize Hd.new wb 1 ⟨la, lb, lc⟩ = h at hx hst
  clear hh'
  have hst := Lib.hid hst
  have hx := Lib.hid hx
  by_cases hn : n = 0
  · subst hn
    have hst := Lib.hid (hst.out.trans (if_pos rfl))
    go_wp2_with fail
    refine (stage_any hb _ _ hx.out).mono ?_
    rintro e w6 ⟨rfl, rfl⟩
    rw [hst.out]
    go_wp2_with fail
    refine (fin_nil _).mono ?_
    rintro e w6 ⟨rfl, rfl⟩
    go_wp2_with fail
    refine (req_nil _).mono ?_
    rintro e w7 ⟨rfl, hf7⟩
    simp only [Req.v, Req.zero]
    go_wp2_with fail
    refine (stage_nil _).mono ?_
    rintro e w8 ⟨rfl, rfl⟩
    go_wp2_with fail
    refine (waits_nil (g + 1) _).mono ?_
    rintro e w8 ⟨rfl, rfl⟩
    go_wp2_with fail
    refine (step_over none stage_nil _ _ _).mono ?_
    rintro e w8 ⟨rfl, rfl⟩
    go_wp2_with fail
    refine (awake17 _).mono ?_
    rintro e w9 ⟨rfl, hf9⟩
    go_wp2_with fail
    go_ret
    exact ⟨rfl, ((hF.out.then hf5).then hf7).then hf9⟩
  · have hn' : (n == 0) = false := beq_eq_false_iff_ne.2 hn
    have hst := Lib.hid (hst.out.trans (if_neg hn))
    go_wp2_with fail
    refine (stage_any hb _ _ hx.out).mono ?_
    rintro e w6 ⟨rfl, rfl⟩
    rw [hst.out]
    go_wp2_with fail
    refine (fin_nil _).mono ?_
    rintro e w6 ⟨rfl, rfl⟩
    go_wp2_with fail
    refine (req_nil _).mono ?_
    rintro e w7 ⟨rfl, hf7⟩
    simp only [Req.v, Req.zero]
    go_wp2_with fail
    refine (stage_nil _).mono ?_
    rintro e w8 ⟨rfl, rfl⟩
    go_wp2_with fail
    refine (waits_nil (g + 1) _).mono ?_
    rintro e w8 ⟨rfl, rfl⟩
    go_wp2_with fail
    refine (step_over none stage_nil _ _ _).mono ?_
    rintro e w8 ⟨rfl, rfl⟩
    go_wp2_with fail
    refine (awake17 _).mono ?_
    rintro e w9 ⟨rfl, hf9⟩
    go_wp2_with fail
    go_ret
    exact ⟨rfl, ((hF.out.then hf5).then hf7).then hf9⟩
end Go.Proofs.YtbbbodfikgdhcaaGreatDoor
