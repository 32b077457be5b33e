/- Contracts of package snap: a diary, and deeds that ask for the load. -/
import Derived.Test.YtbbbodfikgdhcaaGreatDoorSeq2
import Derived.Deep.RegionLaw
import Derived.Deep.AppendLies
namespace Go.Proofs.YtbbbodfikgdhcaaGreatDoor
open Go Go.RowKit

/-- A diary over a scheduler, its deeds in `v`. -/
def DiaryAt (w : World) (d sb : Nat) (nodes : Int) (v : Value) : Prop := Blk w d 57 #[.pointer (some ⟨sb, 0, none⟩), .int .i64 nodes, v]
theorem DiaryAt.fr {F : Nat → Prop} {w w' : World} {d sb : Nat} {nodes : Int} {v : Value} (h : DiaryAt w d sb nodes v) (hf : Fr F w w') (hn : ¬ F d) : DiaryAt w' d sb nodes v := Blk.fr h hf hn
theorem DiaryAt.facts {w : World} {d sb : Nat} {nodes : Int} {v : Value} (h : DiaryAt w d sb nodes v) : w.cell? ⟨d, 0, none⟩ = some (.pointer (some ⟨sb, 0, none⟩)) ∧ w.cell? ⟨d, 1, none⟩ = some (.int .i64 nodes) ∧ w.cell? ⟨d, 2, none⟩ = some v ∧
    (∀ o, w.frozen? ⟨d, o, none⟩ = false) ∧ d < w.heap.size := by
  unfold DiaryAt at h
  exact ⟨by rw [h.cell]; rfl, by rw [h.cell]; rfl, by rw [h.cell]; rfl, h.frozen, h.lt⟩

theorem dnone_no (d sb : Nat) (nodes : Int) (v : Value) (w : World) (h : DiaryAt w d sb nodes v) : Calls Tryz.prog 88 #[.pointer (some ⟨d, 0, none⟩)] w fun e w' => e = .returned (.bool false) ∧ w = w' := by
  obtain ⟨c0, c1, c2, c3, c4⟩ := h.facts
  clear h
  go_enter Tryz.func88, Tryz.ntmps88
  go_wp2
  go_ret
  exact ⟨rfl, rfl⟩
theorem dnone_nil (w : World) : Calls Tryz.prog 88 #[.pointer none] w fun e w' => e = .returned (.bool true) ∧ w = w' := by
  go_enter Tryz.func88, Tryz.ntmps88
  go_wp2
  go_ret
  exact ⟨rfl, rfl⟩
theorem dnone_zero (d : Nat) (w : World) (h : w.cell? ⟨d, 0, none⟩ = some (.pointer none)) (hz : d < w.heap.size) : Calls Tryz.prog 88 #[.pointer (some ⟨d, 0, none⟩)] w fun e w' => e = .returned (.bool true) ∧ w = w' := by
  go_enter Tryz.func88, Tryz.ntmps88
  go_wp2
  go_ret
  exact ⟨rfl, rfl⟩

theorem diaryNew (n : Nat) (h1 : 1 ≤ n) (h2 : n ≤ 64) (w : World) : Calls Tryz.prog 37 #[.int .i64 n] w fun e w' => ∃ d sb L, e = .returned (.tuple #[.pointer (some ⟨d, 0, none⟩), .int .i64 0]) ∧ DiaryAt w' d sb n (.slice none 0 0) ∧ SchedAt w' sb L.c ∧ CoreAt w' L (.new n) ∧
    (∀ k, L.foot k → w.heap.size ≤ k) ∧ w.heap.size ≤ sb ∧ w.heap.size ≤ d ∧ Fr No w w' := by
  go_enter Tryz.func37, Tryz.ntmps37
  go_wp2_with fail
  refine (seqNew n h1 h2 _).mono ?_
  rintro e w1 ⟨sb, L, rfl, hs, hc, hL, hsb, hf1⟩
  have Hc := Lib.hid hc
  have HL := Lib.hid hL
  have Hs := Lib.hid hs
  clear hc hL hs
  have z1 := hf1.size
  go_wp2_with fail
  go_ret2
  exact ⟨_, sb, L, rfl, Blk.new _ _ _, Hs.out.fr ((Fr.refl No w1).alloc _) (fun x => x), Hc.out.frNo ((Fr.refl No w1).alloc _), HL.out, hsb, z1, hf1.alloc _⟩

abbrev deed0 (k : Int) : Value := .agg #[.int .i64 k, .int .i64 0, .int .i64 0, .int .i64 0, .int .i64 0, .int .i64 0, .bool false, .int .i64 0, .int .i64 0, .int .i64 0, .int .i64 0, .bool false]

theorem act_nil (w : World) : Calls Tryz.prog 33 #[.pointer none, deed0 0] w fun e w' => e = .returned (.tuple #[Rep.zero.v, .int .i64 8]) ∧ Fr No w w' := by
  go_enter Tryz.func33, Tryz.ntmps33
  go_wp2_with fail
  refine (dnone_nil _).mono ?_
  rintro e w1 ⟨rfl, rfl⟩
  go_wp2_with fail
  refine bodyPost_ret (by (simp [results, Tryz.results33, go_sem, *]; try rfl)) rfl ?_
  exact ⟨rfl, by (repeat' (first | with_reducible exact Fr.refl _ _ | with_reducible assumption | with_reducible refine Fr.setCell ?_ (Or.inr (by (first | with_reducible exact Nat.le_refl _ | (simp; done) | omega | (simp; omega)))) _ | with_reducible refine Fr.alloc ?_ _ | with_reducible refine Fr.drew ?_ | with_reducible refine Fr.drewN ?_ _ | (with_reducible refine Fr.then ?_ (by with_reducible assumption))))⟩
theorem act_zero (d : Nat) (w : World) (h : w.cell? ⟨d, 0, none⟩ = some (.pointer none)) (hz : d < w.heap.size) : Calls Tryz.prog 33 #[.pointer (some ⟨d, 0, none⟩), deed0 0] w fun e w' => e = .returned (.tuple #[Rep.zero.v, .int .i64 8]) ∧ Fr No w w' := by
  go_enter Tryz.func33, Tryz.ntmps33
  go_wp2_with fail
  refine (dnone_zero d _ ?_ ?_).mono ?_
  · exact (((Fr.refl No w).alloc _).alloc _).cell hz (fun x => x) |>.trans h
  · simp; omega
  rintro e w1 ⟨rfl, rfl⟩
  go_wp2_with fail
  refine bodyPost_ret (by (simp [results, Tryz.results33, go_sem, *]; try rfl)) rfl ?_
  exact ⟨rfl, by (repeat' (first | with_reducible exact Fr.refl _ _ | with_reducible assumption | with_reducible refine Fr.setCell ?_ (Or.inr (by (first | with_reducible exact Nat.le_refl _ | (simp; done) | omega | (simp; omega)))) _ | with_reducible refine Fr.alloc ?_ _ | with_reducible refine Fr.drew ?_ | with_reducible refine Fr.drewN ?_ _ | (with_reducible refine Fr.then ?_ (by with_reducible assumption))))⟩

/-- A diary's block, its scheduler, its core and its deeds. -/
structure DEnv (w : World) (B d sb : Nat) (nodes : Int) (L : Locs) (s : St) (k : Nat) (v : Value) (xs : List Value) : Prop where
  diary : DiaryAt w d sb nodes v
  sched : SchedAt w sb L.c
  core : CoreAt w L s
  deeds : w.ownsRow B 63 12 v k xs
  low : (∀ i, L.foot i → B ≤ i) ∧ B ≤ d ∧ B ≤ w.heap.size

set_option maxRecDepth 100000 in
theorem act_full (B d sb : Nat) (nodes : Int) (L : Locs) (s : St) (k : Nat) (v : Value) (xs : List Value) (q : Int) (w : World) (h : DEnv w B d sb nodes L s k v xs) (hk : 4096 ≤ k) (hk2 : k ≤ 5000) :
    Calls Tryz.prog 33 #[.pointer (some ⟨d, 0, none⟩), deed0 q] w fun e w' => e = .returned (.tuple #[Rep.zero.v, .int .i64 6]) ∧ Fr No w w' := by
  obtain ⟨ao, cap, rfl⟩ := own_slice h.deeds
  obtain ⟨c0, c1, c2, c3, c4⟩ := h.diary.facts
  have H := Lib.hid h
  clear h
  go_enter Tryz.func33, Tryz.ntmps33
  go_wp2_with fail
  refine (dnone_no d sb nodes _ _ (H.out.diary.fr (F := No) ?_ (fun x => x))).mono ?_
  · exact ((Fr.refl No w).alloc _).alloc _
  rintro e w1 ⟨rfl, rfl⟩
  go_wp2_with fail
  refine bodyPost_ret (by (simp [results, Tryz.results33, go_sem, *]; try rfl)) rfl ?_
  exact ⟨rfl, by (repeat' (first | with_reducible exact Fr.refl _ _ | with_reducible assumption | with_reducible refine Fr.setCell ?_ (Or.inr (by (first | with_reducible exact Nat.le_refl _ | (simp; done) | omega | (simp; omega)))) _ | with_reducible refine Fr.alloc ?_ _ | with_reducible refine Fr.drew ?_ | with_reducible refine Fr.drewN ?_ _ | (with_reducible refine Fr.then ?_ (by with_reducible assumption))))⟩
end Go.Proofs.YtbbbodfikgdhcaaGreatDoor
