/- A request under way, all that it has together; chapter 17's example. -/
import Derived.Test.YtbbbodfikgdhcaaGreatDoorOp4
namespace Go.Proofs.YtbbbodfikgdhcaaGreatDoor
open Go Go.RowKit

/-- A core, locks, and what a client asked for, with its hand and its work. -/
structure Env (w : World) (L : Locs) (s : St) (k : Nat) (lk : Lk) (b hb : Nat) (r : Req) (h : Hd) (x : Wk) : Prop where
  core : CoreAt w L s
  lock : LockAt w k lk
  op : OpAt w b hb r
  hand : HdAt w hb h
  work : WkAt w h.wb x

section
variable {w w' : World} {L : Locs} {s s' : St} {k : Nat} {lk lk' : Lk} {b hb : Nat} {r : Req} {h h' : Hd} {x x' : Wk}
theorem Env.frNo (e : Env w L s k lk b hb r h x) (hf : Fr No w w') : Env w' L s k lk b hb r h x :=
  ⟨e.core.frNo hf, e.lock.fr hf id, e.op.fr hf id, e.hand.fr hf id, e.work.fr hf id⟩
theorem Env.take (e : Env w L s k lk b hb r h x) (h1 : HdAt w' hb h') (h2 : LockAt w' k lk') (hw : h'.wb = h.wb) (hf : Fr (fun i => i = hb ∨ i = k) w w') : Env w' L s k lk' b hb r h' x := by
  have n1 : ¬ L.foot hb := e.hand.off e.core
  have n2 : ¬ L.foot k := e.core.off e.lock (by decide)
  have n3 : b ≠ hb := Blk.ne_ e.op e.hand (by decide)
  have n4 : b ≠ k := Blk.ne_ e.op e.lock (by decide)
  have n5 : h.wb ≠ hb := Blk.ne_ e.work e.hand (by decide)
  have n6 : h.wb ≠ k := Blk.ne_ e.work e.lock (by decide)
  exact ⟨e.core.fr hf (fun i hi hx => by rcases hx with rfl | rfl; exact n1 hi; exact n2 hi), h2, e.op.fr hf (fun hx => by rcases hx with hx | hx; exact n3 hx; exact n4 hx), h1, by
    rw [hw]; exact e.work.fr hf (fun hx => by rcases hx with hx | hx; exact n5 hx; exact n6 hx)⟩
theorem Env.tell (e : Env w L s k lk b hb r h x) (h1 : HdAt w' hb h') (hw : h'.wb = h.wb) (hf : Fr (One hb) w w') : Env w' L s k lk b hb r h' x := by
  have n : k ≠ hb := Blk.ne_ e.lock e.hand (by decide)
  exact e.take h1 (e.lock.fr hf n) hw (hf.mono fun i _ e => .inl e)
theorem Env.part (e : Env w L s k lk b hb r h x) (t : HdTo hb h.wb L w h' x' s' w') (hw : h'.wb = h.wb) :
    ∃ L', L'.c = L.c ∧ (∀ i, L'.foot i → L.foot i ∨ w.heap.size ≤ i) ∧ Env w' L' s' k lk b hb r h' x' := by
  obtain ⟨L', k1, k2, k3⟩ := t.core
  have m1 : ¬ L.foot k := e.core.off e.lock (by decide)
  have m2 : ¬ L.foot b := e.core.off e.op (by decide)
  have n3 : b ≠ hb := Blk.ne_ e.op e.hand (by decide)
  have n4 : b ≠ h.wb := Blk.ne_ e.op e.work (by decide)
  have n5 : k ≠ hb := Blk.ne_ e.lock e.hand (by decide)
  have n6 : k ≠ h.wb := Blk.ne_ e.lock e.work (by decide)
  refine ⟨L', k2, k3, k1, e.lock.fr t.fr ?_, e.op.fr t.fr ?_, t.hd, by rw [hw]; exact t.wk⟩
  · rintro (hx | hx | hx); exact n5 hx; exact n6 hx; exact m1 hx
  · rintro (hx | hx | hx); exact n3 hx; exact n4 hx; exact m2 hx
end

theorem Fr.fresh {F : Nat → Prop} {a b c : World} (h : Fr No a b) (k : Fr F b c) (hF : ∀ i, F i → a.heap.size ≤ i) : Fr No a c :=
  h.trans k (fun _ x => x) (fun i hi x => by have := hF i x; omega)

theorem POk.new (n : Nat) (h : n ≤ 64) : POk (St.new n).steps := by
  refine ⟨?_, by simp [St.new], by simp [St.new], ?_⟩
  · intro i j x y hij hi hj
    simp [St.new] at hi hj
    have h1 := (List.getElem?_eq_some_iff.1 hi).1
    have h2 := (List.getElem?_eq_some_iff.1 hj).1
    simp at h1 h2
    omega
  · intro i x hi
    cases i with
    | zero => simp [St.new] at hi; subst hi; simp; omega
    | succ i => simp [St.new] at hi

set_option maxHeartbeats 1000000 in
set_option maxRecDepth 100000 in
theorem awake17 (w : World) : Calls Tryz.prog 24 #[] w fun e w' => e = .returned (.bool true) ∧ Fr No w w' := by
  go_enter Tryz.func24, Tryz.ntmps24
  go_wp2_with fail
  refine (coreNew 3 (by decide) (by decide) _).mono ?_
  rintro e w1 ⟨L, rfl, hc, hL, hf1⟩
  have hc := Lib.hid hc
  have hL := Lib.hid hL
  go_wp2_with fail
  refine (opNew ⟨12, 0, 0, 0, 0, 0, false, 0, 0⟩ 1 _).mono ?_
  rintro e w3 ⟨b, hb, wb, rfl, ho, hh, hw, hzb, hzh, hzw, hf3⟩
  have hk := Lib.hid (LockAt.fr (l := ⟨0, 0, 0, 0⟩) (Blk.new w1 29 #[.int .i64 0, .int .i64 0, .int .i64 0, .int .i64 0]) hf3 id)
  have hE : Env w3 L (.new 3) w1.heap.size ⟨0, 0, 0, 0⟩ b hb ⟨12, 0, 0, 0, 0, 0, false, 0, 0⟩ ⟨wb, 1, ⟨false, false, true⟩, 2, 0⟩ (.ofReq ⟨12, 0, 0, 0, 0, 0, false, 0, 0⟩) :=
    ⟨(hc.out.frNo ((Fr.refl No w1).alloc _)).frNo hf3, hk.out, ho, hh, hw⟩
  have hE := Lib.hid hE
  have c0 := hE.out.op.hand
  clear ho hh hw
  go_wp2_with fail
  simp at hzb hzh hzw
  have z1 := hf1.size
  have hF3 : Fr No w w3 := (hf1.alloc _).then hf3
  have hF3 := Lib.hid hF3
  clear hf1 hf3 hk hc
  refine wp_loop_rounds 5 ?_
  rw [rounds_succ]
  go_wp2_with fail
  refine (fin_any b hb _ _ _ hE.out.op hE.out.hand).mono ?_
  rintro e w4 ⟨rfl, rfl⟩
  go_wp2_with fail
  refine (step_take hb _ _ _ 2 (by decide) _ _ hE.out.hand hE.out.lock rfl rfl (by show (1 : Int) ≤ 1; decide) rfl rfl).mono ?_
  rintro e w4 ⟨rfl, hh4, hl4, hf4⟩
  have hE4 : Hid (Env w4 L (.new 3) w1.heap.size ⟨0, 0, 1, wrap64 (0 + 1)⟩ b hb ⟨12, 0, 0, 0, 0, 0, false, 0, 0⟩ ⟨wb, 1, ⟨false, false, true⟩, 3, 1⟩ (.ofReq ⟨12, 0, 0, 0, 0, 0, false, 0, 0⟩)) := Lib.hid (hE.out.take hh4 hl4 rfl hf4)
  have hF4 := Lib.hid (hF3.out.fresh hf4 (by rintro i (rfl | rfl) <;> omega))
  clear hh4 hl4 hf4 c0
  have c0 := hE4.out.op.hand
  go_wp2_with fail
  rw [rounds_succ]
  go_wp2_with fail
  refine (fin_any b hb _ _ _ hE4.out.op hE4.out.hand).mono ?_
  rintro e w5 ⟨rfl, rfl⟩
  go_wp2_with fail
  refine (step_parts hb _ (.ofReq ⟨12, 0, 0, 0, 0, 0, false, 0, 0⟩) _ L (.new 3) (.new 3) true _ _ hE4.out.hand hE4.out.work hE4.out.core (.inl rfl) (fun w1' hw hc =>
    step_serve wb _ { (Wk.ofReq ⟨12, 0, 0, 0, 0, 0, false, 0, 0⟩) with rep := (St.new 3).clock, done := true } L (.new 3) (.new 3) w1' hw hc (hw.off hc) rfl rfl (.inr rfl) (serve_clock wb _ L (.new 3) w1' hw hc (POk.new 3 (by decide)) rfl (hw.off hc)))).mono ?_
  rintro e w5 ⟨rfl, ht⟩
  obtain ⟨L', hLc, hLf, hE5⟩ := hE4.out.part ht rfl
  have hE5 : Hid (Env w5 L' (.new 3) w1.heap.size ⟨0, 0, 1, wrap64 (0 + 1)⟩ b hb ⟨12, 0, 0, 0, 0, 0, false, 0, 0⟩ ⟨wb, 1, ⟨false, false, true⟩, 2, 3⟩ { (Wk.ofReq ⟨12, 0, 0, 0, 0, 0, false, 0, 0⟩) with rep := (St.new 3).clock, done := true, part := wrap64 (0 + 1) }) := Lib.hid hE5
  have hF5 := Lib.hid (hF4.out.fresh ht.fr (by
    rintro i (e | e | hi)
    · omega
    · have : i = wb := e
      omega
    · exact hL.out i hi))
  clear ht c0
  have c0 := hE5.out.op.hand
  go_wp2_with fail
  rw [rounds_succ]
  go_wp2_with fail
  refine (fin_any b hb _ _ _ hE5.out.op hE5.out.hand).mono ?_
  rintro e w6 ⟨rfl, rfl⟩
  go_wp2_with fail
  refine (step_give hb _ _ _ 2 (by decide) _ _ hE5.out.hand hE5.out.lock rfl rfl (by show (1 : Int) ≤ 1; decide) rfl).mono ?_
  rintro e w6 ⟨rfl, hh6, hl6, hf6⟩
  have hE6 : Hid (Env w6 L' (.new 3) w1.heap.size ⟨0, 0, 0, wrap64 (0 + 1)⟩ b hb ⟨12, 0, 0, 0, 0, 0, false, 0, 0⟩ ⟨wb, 1, ⟨false, false, true⟩, -1, 4⟩ { (Wk.ofReq ⟨12, 0, 0, 0, 0, 0, false, 0, 0⟩) with rep := (St.new 3).clock, done := true, part := wrap64 (0 + 1) }) := Lib.hid (hE5.out.take hh6 hl6 rfl hf6)
  have hF6 := Lib.hid (hF5.out.fresh hf6 (by rintro i (rfl | rfl) <;> omega))
  clear hh6 hl6 hf6 c0
  have c0 := hE6.out.op.hand
  go_wp2_with fail
  rw [rounds_succ]
  go_wp2_with fail
  refine (fin_any b hb _ _ _ hE6.out.op hE6.out.hand).mono ?_
  rintro e w7 ⟨rfl, rfl⟩
  go_wp2_with fail
  refine (step_tell hb _ _ _ _ hE6.out.hand rfl).mono ?_
  rintro e w7 ⟨rfl, hh7, hf7⟩
  have hE7 : Hid (Env w7 L' (.new 3) w1.heap.size ⟨0, 0, 0, wrap64 (0 + 1)⟩ b hb ⟨12, 0, 0, 0, 0, 0, false, 0, 0⟩ ⟨wb, 1, ⟨false, false, true⟩, -1, 5⟩ { (Wk.ofReq ⟨12, 0, 0, 0, 0, 0, false, 0, 0⟩) with rep := (St.new 3).clock, done := true, part := wrap64 (0 + 1) }) := Lib.hid (hE6.out.tell hh7 rfl hf7)
  have hF7 := Lib.hid (hF6.out.fresh hf7 (by rintro i rfl; omega))
  clear hh7 hf7 c0
  have c0 := hE7.out.op.hand
  have c1 := hE7.out.hand.facts.1
  go_wp2_with fail
  rw [rounds_succ]
  go_wp2_with fail
  refine (fin_any b hb _ _ _ hE7.out.op hE7.out.hand).mono ?_
  rintro e w8 ⟨rfl, rfl⟩
  go_wp2_with fail
  have hr : (St.new 3).clock = ⟨0, 0, 0, 0, 0, 0, 3, 0, 0⟩ := by decide
  refine (reply_any wb { (Wk.ofReq ⟨12, 0, 0, 0, 0, 0, false, 0, 0⟩) with rep := (St.new 3).clock, done := true, part := wrap64 (0 + 1) } _ hE7.out.work).mono ?_
  rintro e w8 ⟨rfl, hf8⟩
  simp only [hr, Rep.v]
  clear hr
  have hfld : ∀ u, (Instr.field 59 (.agg #[.int .i64 0, .int .i64 0, .int .i64 0, .int .i64 0, .int .i64 0, .int .i64 0, .int .i64 3, .int .i64 0, .int .i64 0]) 6).run Tryz.prog u = .ok (.int .i64 3) u := fun _ => by kernel_rfl
  go_wp2_with fail
  refine (lidle_any _ _ _ (hE7.out.lock.fr hf8 id)).mono ?_
  rintro e w9 ⟨rfl, rfl⟩
  go_wp2_with fail
  refine (needs_any 12 _).mono ?_
  rintro e w9 ⟨rfl, hf9⟩
  go_wp2_with fail
  refine (steps_any (needs 12) _).mono ?_
  rintro e w10 ⟨rfl, hf10⟩
  go_wp2_with fail
  go_ret
  exact ⟨rfl, ((hF7.out.then hf8).then hf9).then hf10⟩
end Go.Proofs.YtbbbodfikgdhcaaGreatDoor
