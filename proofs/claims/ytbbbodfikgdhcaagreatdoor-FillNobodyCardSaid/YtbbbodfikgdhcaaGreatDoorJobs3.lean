/- How many jobs wait, are held, and run; and the request that asks for it. -/
import Derived.Test.YtbbbodfikgdhcaaGreatDoorJobs2
import Derived.Test.YtbbbodfikgdhcaaGreatDoorWork2
namespace Go.Proofs.YtbbbodfikgdhcaaGreatDoor
open Go Go.RowKit

/-- A slice just built of one number. -/
theorem one_int {w : World} {g : Nat} {t : TypeId} {x : Int} (h : Blk w g t #[.int .i64 x]) : ∀ i z, [x][i]? = some z → w.cell? ⟨g, i, none⟩ = some (.int .i64 z) := by
  intro i z hz
  rw [h.cell]
  cases i with
  | zero => simp at hz; subst hz; rfl
  | succ i => simp at hz

theorem own_slice {w : World} {base n size : Nat} {e : TypeId} {v : Value} {xs : List Value} (h : w.ownsRow base e size v n xs) : ∃ ao cap, v = .slice ao n cap := by
  rcases h.2 with ⟨hv, hn⟩ | ⟨g, cap, cur, hv, _⟩
  · exact ⟨none, 0, by rw [hv, hn]⟩
  · exact ⟨_, cap, hv⟩

theorem jcounts (b : Nat) (v : Value) (l : List Job) (live : Int) (w : World) (h : JobsAt w b v l live) (hn : l.length ≤ 1048576) :
    Calls Tryz.prog 201 #[.pointer (some ⟨b, 0, none⟩)] w fun e w' => e = .returned (.tuple #[.int .i64 (inStates l [1]).length, .int .i64 (inStates l [2]).length, .int .i64 (inStates l [3]).length]) ∧ Fr No w w' := by
  have hv : ∀ g, v.ownBlock = some g → ¬ No g := fun _ _ => id
  have H := Lib.hid h
  clear h
  have hlen : ∀ st, (inStates l st).length ≤ 1048576 := fun st => Nat.le_trans (List.length_filter_le _ _) hn
  have Hlen := Lib.hid hlen
  clear hlen
  go_enter Tryz.func201, Tryz.ntmps201
  go_wp2_with fail
  have hf0 := (Fr.refl No w).alloc (.cells #[.int .i64 1] 3)
  refine (jin b v l live w.heap.size 1 [1] _ (H.out.fr hf0 id hv) hn (by decide) (by decide) (by simp) (one_int (Blk.new _ _ _))).mono ?_
  rintro e w1 ⟨v1, rfl, ho1, hf1⟩
  obtain ⟨a1, p1, rfl⟩ := own_slice ho1
  have l1 := Hlen.out [1]
  have hF1 := Lib.hid (hf0.then hf1)
  clear hf1 hf0 ho1
  go_wp2_with fail
  have hf0 := hF1.out.alloc (.cells #[.int .i64 2] 3)
  refine (jin b v l live w1.heap.size 1 [2] _ (H.out.fr hf0 id hv) hn (by decide) (by decide) (by simp) (one_int (Blk.new _ _ _))).mono ?_
  rintro e w2 ⟨v2, rfl, ho2, hf2⟩
  obtain ⟨a2, p2, rfl⟩ := own_slice ho2
  have l2 := Hlen.out [2]
  have hF2 := Lib.hid (hf0.then hf2)
  clear hf2 hf0 ho2
  go_wp2_with fail
  have hf0 := hF2.out.alloc (.cells #[.int .i64 3] 3)
  refine (jin b v l live w2.heap.size 1 [3] _ (H.out.fr hf0 id hv) hn (by decide) (by decide) (by simp) (one_int (Blk.new _ _ _))).mono ?_
  rintro e w3 ⟨v3, rfl, ho3, hf3⟩
  obtain ⟨a3, p3, rfl⟩ := own_slice ho3
  have l3 := Hlen.out [3]
  have hF3 := Lib.hid (hf0.then hf3)
  clear hf3 hf0 ho3
  go_wp2_with fail
  go_ret3
  exact ⟨rfl, hF3.out⟩

theorem three (a b c : Int) (w : World) : Calls Tryz.prog 199 #[.int .i64 a, .int .i64 b, .int .i64 c] w fun e w' => e = .returned { Rep.zero with a := a, b := b, c := c }.v ∧ Fr No w w' := by
  go_enter Tryz.func199, Tryz.ntmps199
  go_wp2
  refine bodyPost_ret (by (simp [results, Tryz.results199, go_sem, *]; try rfl)) rfl ?_
  exact ⟨rfl, by (repeat' (first | with_reducible exact Fr.refl _ _ | with_reducible assumption | with_reducible refine Fr.setCell ?_ (Or.inr (by (first | with_reducible exact Nat.le_refl _ | (simp; done) | omega | (simp; omega)))) _ | with_reducible refine Fr.alloc ?_ _ | with_reducible refine Fr.drew ?_ | with_reducible refine Fr.drewN ?_ _ | (with_reducible refine Fr.then ?_ (by with_reducible assumption))))⟩

theorem count_load (b : Nat) (x : Wk) (L : Locs) (s : St) (w : World) (h : WkAt w b x) (hc : CoreAt w L s) (hn : s.jobs.length ≤ 1048576) (hk : x.req.kind = 11) (hb : ¬ L.foot b) :
    Calls Tryz.prog 158 #[.pointer (some ⟨b, 0, none⟩), .pointer (some ⟨L.c, 0, none⟩)] w fun e w' => e = .returned (.tuple #[]) ∧ WkAt w' b { x with rep := s.load, done := true } ∧ Fr (One b) w w' := by
  have c0 : w.cell? ⟨b, 0, none⟩ = some (.int .i64 11) := by rw [h.at_, ← hk]; rfl
  obtain ⟨d0, d1, d2, d3, hz⟩ := hc.cells
  have Hb := Lib.hid hb
  have H := Lib.hid h
  have Hc := Lib.hid hc
  have Hn := Lib.hid hn
  have hzb := h.lt
  clear h hc hk hb hn
  go_enter Tryz.func158, Tryz.ntmps158
  go_wp2_with fail
  refine (jcounts L.jb L.v s.jobs s.live _ Hc.out.jobs Hn.out).mono ?_
  rintro e w1 ⟨rfl, hf1⟩
  go_wp2_with fail
  refine (three _ _ _ _).mono ?_
  rintro e w2 ⟨rfl, hf2⟩
  go_wp2_with fail
  refine (wend b x s.load _ ((H.out.fr hf1 id).fr hf2 id)).mono ?_
  rintro e w3 ⟨rfl, hw, hf3⟩
  go_wp2_with fail
  go_end0
  exact ⟨rfl, hw, (hf1.then hf2).noThen hf3⟩
end Go.Proofs.YtbbbodfikgdhcaaGreatDoor
