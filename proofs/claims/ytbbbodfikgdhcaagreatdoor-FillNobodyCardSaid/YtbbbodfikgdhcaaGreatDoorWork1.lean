/- Contracts of works: what is asked of them, how they end; the part of a request for the time. -/
import Derived.Test.YtbbbodfikgdhcaaGreatDoorCore1
namespace Go.Proofs.YtbbbodfikgdhcaaGreatDoor
open Go Go.RowKit

theorem newCommit (i t : Int) (w : World) : Calls Tryz.prog 105 #[.agg #[.int .i64 i, .int .i64 t]] w fun e w' => ∃ b, e = .returned (.pointer (some ⟨b, 0, none⟩)) ∧ WkAt w' b (.ofChoice i t) ∧ w.heap.size ≤ b ∧ Fr No w w' := by
  go_enter Tryz.func105, Tryz.ntmps105
  go_wp2_with fail
  go_ret
  exact ⟨_, rfl, Blk.new1 _ _ _ _, by omega, by (repeat' (first | with_reducible exact Fr.refl _ _ | with_reducible assumption | with_reducible refine Fr.setCell ?_ (Or.inr (by (first | with_reducible exact Nat.le_refl _ | (simp; done) | omega | (simp; omega)))) _ | with_reducible refine Fr.alloc ?_ _ | with_reducible refine Fr.drew ?_ | with_reducible refine Fr.drewN ?_ _ | (with_reducible refine Fr.then ?_ (by with_reducible assumption))))⟩

theorem done_any (b : Nat) (x : Wk) (w : World) (h : WkAt w b x) : Calls Tryz.prog 58 #[.pointer (some ⟨b, 0, none⟩)] w fun e w' => e = .returned (.bool x.done) ∧ w = w' := by
  have h22 : w.cell? ⟨b, 22, none⟩ = some (.bool x.done) := h.at_ 22
  clear h
  go_enter Tryz.func58, Tryz.ntmps58
  go_wp2
  go_ret
  exact ⟨rfl, rfl⟩

theorem ok_any (b : Nat) (x : Wk) (w : World) (h : WkAt w b x) : Calls Tryz.prog 107 #[.pointer (some ⟨b, 0, none⟩)] w fun e w' => e = .returned (.bool x.ok) ∧ w = w' := by
  have h23 : w.cell? ⟨b, 23, none⟩ = some (.bool x.ok) := h.at_ 23
  clear h
  go_enter Tryz.func107, Tryz.ntmps107
  go_wp2
  go_ret
  exact ⟨rfl, rfl⟩

theorem reply_any (b : Nat) (x : Wk) (w : World) (h : WkAt w b x) : Calls Tryz.prog 61 #[.pointer (some ⟨b, 0, none⟩)] w fun e w' => e = .returned x.rep.v ∧ Fr No w w' := by
  have c0 : w.cell? ⟨b, 12, none⟩ = some (.int .i64 x.rep.err) := h.at_ 12
  have c1 : w.cell? ⟨b, 13, none⟩ = some (.int .i64 x.rep.id) := h.at_ 13
  have c2 : w.cell? ⟨b, 14, none⟩ = some (.int .i64 x.rep.state) := h.at_ 14
  have c3 : w.cell? ⟨b, 15, none⟩ = some (.int .i64 x.rep.start) := h.at_ 15
  have c4 : w.cell? ⟨b, 16, none⟩ = some (.int .i64 x.rep.end_) := h.at_ 16
  have c5 : w.cell? ⟨b, 17, none⟩ = some (.int .i64 x.rep.plan) := h.at_ 17
  have c6 : w.cell? ⟨b, 18, none⟩ = some (.int .i64 x.rep.a) := h.at_ 18
  have c7 : w.cell? ⟨b, 19, none⟩ = some (.int .i64 x.rep.b) := h.at_ 19
  have c8 : w.cell? ⟨b, 20, none⟩ = some (.int .i64 x.rep.c) := h.at_ 20
  have hz := h.lt
  clear h
  go_enter Tryz.func61, Tryz.ntmps61
  go_wp2
  refine bodyPost_ret (by (simp [results, Tryz.results61, go_sem, *]; try rfl)) rfl ?_
  exact ⟨rfl, by (repeat' (first | with_reducible exact Fr.refl _ _ | with_reducible assumption | with_reducible refine Fr.setCell ?_ (Or.inr (by (first | with_reducible exact Nat.le_refl _ | (simp; done) | omega | (simp; omega)))) _ | with_reducible refine Fr.alloc ?_ _ | with_reducible refine Fr.drew ?_ | with_reducible refine Fr.drewN ?_ _ | (with_reducible refine Fr.then ?_ (by with_reducible assumption))))⟩

theorem wend (b : Nat) (x : Wk) (r : Rep) (w : World) (h : WkAt w b x) : Calls Tryz.prog 144 #[.pointer (some ⟨b, 0, none⟩), r.v] w fun e w' => e = .returned (.tuple #[]) ∧ WkAt w' b { x with rep := r, done := true } ∧ Fr (One b) w w' := by
  have c0 : w.cell? ⟨b, 12, none⟩ = some (.int .i64 x.rep.err) := h.at_ 12
  have c1 : w.cell? ⟨b, 13, none⟩ = some (.int .i64 x.rep.id) := h.at_ 13
  have c2 : w.cell? ⟨b, 14, none⟩ = some (.int .i64 x.rep.state) := h.at_ 14
  have c3 : w.cell? ⟨b, 15, none⟩ = some (.int .i64 x.rep.start) := h.at_ 15
  have c4 : w.cell? ⟨b, 16, none⟩ = some (.int .i64 x.rep.end_) := h.at_ 16
  have c5 : w.cell? ⟨b, 17, none⟩ = some (.int .i64 x.rep.plan) := h.at_ 17
  have c6 : w.cell? ⟨b, 18, none⟩ = some (.int .i64 x.rep.a) := h.at_ 18
  have c7 : w.cell? ⟨b, 19, none⟩ = some (.int .i64 x.rep.b) := h.at_ 19
  have c8 : w.cell? ⟨b, 20, none⟩ = some (.int .i64 x.rep.c) := h.at_ 20
  have c9 : w.cell? ⟨b, 22, none⟩ = some (.bool x.done) := h.at_ 22
  have hfz := h.froz
  have hz := h.lt
  have hne : b ≠ w.heap.size := by omega
  have H := Lib.hid h
  clear h
  go_enter Tryz.func144, Tryz.ntmps144
  go_wp2
  go_end0
  refine ⟨rfl, Blk.cast (((((((((((H.out.set_ 12 _).set_ 13 _).set_ 14 _).set_ 15 _).set_ 16 _).set_ 17 _).set_ 18 _).set_ 19 _).set_ 20 _).set_ 22 _).alloc _) (by kernel_rfl),
    (((((((((((Fr.refl _ _).set1 _ _).set1 _ _).set1 _ _).set1 _ _).set1 _ _).set1 _ _).set1 _ _).set1 _ _).set1 _ _).set1 _ _).alloc _⟩

theorem replyFail (e0 : Int) (w : World) : Calls Tryz.prog 116 #[.int .i64 e0] w fun e w' => e = .returned (Rep.fail e0).v ∧ Fr No w w' := by
  go_enter Tryz.func116, Tryz.ntmps116
  go_wp2
  refine bodyPost_ret (by (simp [results, Tryz.results116, go_sem, *]; try rfl)) rfl ?_
  exact ⟨rfl, by (repeat' (first | with_reducible exact Fr.refl _ _ | with_reducible assumption | with_reducible refine Fr.setCell ?_ (Or.inr (by (first | with_reducible exact Nat.le_refl _ | (simp; done) | omega | (simp; omega)))) _ | with_reducible refine Fr.alloc ?_ _ | with_reducible refine Fr.drew ?_ | with_reducible refine Fr.drewN ?_ _ | (with_reducible refine Fr.then ?_ (by with_reducible assumption))))⟩

theorem wfail (b : Nat) (x : Wk) (e0 : Int) (w : World) (h : WkAt w b x) : Calls Tryz.prog 108 #[.pointer (some ⟨b, 0, none⟩), .int .i64 e0] w fun e w' => e = .returned (.tuple #[]) ∧ WkAt w' b { x with rep := .fail e0, done := true } ∧ Fr (One b) w w' := by
  have H := Lib.hid h
  clear h
  go_enter Tryz.func108, Tryz.ntmps108
  go_wp2_with fail
  refine (replyFail e0 _).mono ?_
  rintro e w1 ⟨rfl, hf1⟩
  go_wp2_with fail
  refine (wend b x (.fail e0) _ (H.out.fr hf1 id)).mono ?_
  rintro e w2 ⟨rfl, hw, hf2⟩
  go_wp2_with fail
  go_end0
  exact ⟨rfl, hw, hf1.noThen hf2⟩
end Go.Proofs.YtbbbodfikgdhcaaGreatDoor
