/- A request for the load, told. -/
import Derived.Test.YtbbbodfikgdhcaaGreatDoorSeq1
import Derived.Test.YtbbbodfikgdhcaaGreatDoorRule
namespace Go.Proofs.YtbbbodfikgdhcaaGreatDoor
open Go Go.RowKit

theorem CoreTo.fin {L : Locs} {w w2 w3 w5 : World} {k g : Nat} {x' : Wk} {s' : St} (hL : ∀ i, L.foot i → i < w.heap.size) (h2 : Fr No w w2) (t : WkTo k L w2 x' s' w3) (hk : w.heap.size ≤ k) (hg : w.heap.size ≤ g) (hg2 : g < w2.heap.size) (hf : Fr (One g) w3 w5) : CoreTo L w s' w5 := by
  obtain ⟨L', g1, g2, g3⟩ := t.core
  have z2 := h2.size
  refine ⟨⟨L', g1.fr hf ?_, g2, ?_⟩, (h2.trans t.fr (fun _ x => x.elim) ?_).trans hf (fun _ x => x) ?_⟩
  · rintro i hi rfl
    rcases g3 _ hi with h | h
    · have := hL _ h; omega
    · omega
  · intro i hi
    rcases g3 i hi with h | h
    · exact .inl h
    · exact .inr (by omega)
  · rintro i hi (rfl | h)
    · omega
    · exact h
  · rintro i hi rfl
    omega


theorem do_load (b : Nat) (r : Req) (L : Locs) (s : St) (w : World) (h : SchedAt w b L.c) (hc : CoreAt w L s) (hn : s.jobs.length ≤ 1048576) (hk : r.clean.kind = 11) (hk0 : r.kind = 11) (hcl : s.closed = false) :
    Calls Tryz.prog 89 #[.pointer (some ⟨b, 0, none⟩), r.v] w fun e w' => e = .returned s.load.v ∧ CoreTo L w s w' := by
  obtain ⟨kind, id, user, width, limit, prio, held, node, by_⟩ := r
  obtain rfl : kind = 11 := hk0
  have H := Lib.hid h
  have Hc := Lib.hid hc
  have Hk := Lib.hid hk
  have Hcl := Lib.hid hcl
  have zc := hc.lt
  have Zc := Lib.hid zc
  have zb := h.lt
  clear h hc hk hcl zc
  go_enter Tryz.func89, Tryz.ntmps89
  go_wp2_with fail
  have hf0 := Lib.hid (((Fr.refl No w).alloc (.cells #[.int .i64 11, .int .i64 id, .int .i64 user, .int .i64 width, .int .i64 limit, .int .i64 prio, .bool held, .int .i64 node, .int .i64 by_] 23)).alloc (.cells #[.int .i64 0, .int .i64 0, .int .i64 0, .int .i64 0, .int .i64 0, .int .i64 0, .int .i64 0, .int .i64 0, .int .i64 0] 59))
  refine (snone_no b L s _ (H.out.fr hf0.out (fun x => x)) (Hc.out.frNo hf0.out)).mono ?_
  rintro e w1 ⟨rfl, rfl⟩
  go_wp2_with fail
  refine (is_any 11 _).mono ?_
  rintro e w1 ⟨rfl, rfl⟩
  rw [show isKind 11 = true from by decide]
  go_wp2_with fail
  refine (newWork ⟨11, id, user, width, limit, prio, held, node, by_⟩ _).mono ?_
  rintro e w2 ⟨k, rfl, hw, hzk, hf2⟩
  have hb1 := (Blk.new1 w (.cells #[.int .i64 11, .int .i64 id, .int .i64 user, .int .i64 width, .int .i64 limit, .int .i64 prio, .bool held, .int .i64 node, .int .i64 by_] 23) 59 #[.int .i64 0, .int .i64 0, .int .i64 0, .int .i64 0, .int .i64 0, .int .i64 0, .int .i64 0, .int .i64 0, .int .i64 0]).frNo hf2
  have hF2 := Lib.hid (hf0.out.then hf2)
  have HB := Lib.hid hb1
  have HW := Lib.hid hw
  clear hf0 hf2 hb1 hw
  simp at hzk
  have hkL : ¬ L.foot k := fun e => by have := Zc.out k e; omega
  go_wp2_with fail
  refine (run_one b k { (Wk.ofReq (Req.clean ⟨11, id, user, width, limit, prio, held, node, by_⟩)) with rep := s.load, done := true, part := wrap64 (0 + 1) } L s _ (H.out.fr hF2.out (fun x => x)) rfl
    (step_serve k (.ofReq (Req.clean ⟨11, id, user, width, limit, prio, held, node, by_⟩)) { (Wk.ofReq (Req.clean ⟨11, id, user, width, limit, prio, held, node, by_⟩)) with rep := s.load, done := true } L s s _ HW.out (Hc.out.frNo hF2.out) hkL rfl rfl (.inr Hcl.out)
      (serve_load k (.ofReq (Req.clean ⟨11, id, user, width, limit, prio, held, node, by_⟩)) L s _ HW.out (Hc.out.frNo hF2.out) hn Hk.out hkL))).mono ?_
  rintro e w3 ⟨rfl, ht⟩
  have hne : ¬ Own2 k L (w.heap.size + 1) := by
    rintro (e | e)
    · omega
    · have := Zc.out _ e; omega
  obtain ⟨q1, q2, q3⟩ := own HB.out ht.fr hne
  have HB3 := Lib.hid (HB.out.fr ht.fr hne)
  have HT := Lib.hid ht
  clear ht
  go_wp2_with fail
  refine (reply_any k _ _ HT.out.wk).mono ?_
  rintro e w4 ⟨rfl, hf4⟩
  simp only [Rep.v, St.load, Rep.zero]
  obtain ⟨q1, q2, q3⟩ := ownNo HB3.out hf4
  go_wp2_with fail
  refine bodyPost_ret (by (simp [results, Tryz.results89, go_sem, *]; try rfl)) rfl ?_
  refine ⟨?_, CoreTo.fin Zc.out hF2.out HT.out (by omega) (g := w.heap.size + 1) (by omega) HB.out.lt ?_⟩
  · kernel_rfl
  repeat (first | with_reducible exact hf4.any | with_reducible refine Fr.set1 ?_ _ _)
end Go.Proofs.YtbbbodfikgdhcaaGreatDoor
