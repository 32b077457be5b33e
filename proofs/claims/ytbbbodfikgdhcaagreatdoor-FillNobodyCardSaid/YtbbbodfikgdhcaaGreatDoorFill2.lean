/- Contracts of a pass, step by step. -/
import Derived.Test.YtbbbodfikgdhcaaGreatDoorFill1
import Derived.Test.YtbbbodfikgdhcaaGreatDoorLock
namespace Go.Proofs.YtbbbodfikgdhcaaGreatDoor
open Go Go.RowKit

structure Fl where
  pl : Value
  who : Int
  some_ : Int
  depth : Int
  stage : Int
  items : Value
  ver : Int
  choices : Value
  at_ : Int
  hand : Value
  taken : Int
  stale : Bool
def Fl.cells (f : Fl) : Array Value := #[f.pl, .int .i64 f.who, .int .i64 f.some_, .int .i64 f.depth, .int .i64 f.stage, f.items, .int .i64 f.ver, f.choices, .int .i64 f.at_, f.hand, .int .i64 f.taken, .bool f.stale]
def FlAt (w : World) (b : Nat) (f : Fl) : Prop := Blk w b 152 f.cells
theorem FlAt.fr {F : Nat → Prop} {w w' : World} {b : Nat} {f : Fl} (h : FlAt w b f) (hf : Fr F w w') (hn : ¬ F b) : FlAt w' b f := Blk.fr h hf hn
theorem FlAt.cell {w : World} {b : Nat} {f : Fl} (h : FlAt w b f) (o : Nat) : w.cell? ⟨b, o, none⟩ = f.cells[o]? := Blk.cell h o
theorem FlAt.facts {w : World} {b : Nat} {f : Fl} (h : FlAt w b f) : w.cell? ⟨b, 0, none⟩ = some f.pl ∧ w.cell? ⟨b, 1, none⟩ = some (.int .i64 f.who) ∧ w.cell? ⟨b, 2, none⟩ = some (.int .i64 f.some_) ∧ w.cell? ⟨b, 3, none⟩ = some (.int .i64 f.depth) ∧ w.cell? ⟨b, 4, none⟩ = some (.int .i64 f.stage) ∧
    w.cell? ⟨b, 5, none⟩ = some f.items ∧ w.cell? ⟨b, 6, none⟩ = some (.int .i64 f.ver) ∧ w.cell? ⟨b, 7, none⟩ = some f.choices ∧ w.cell? ⟨b, 8, none⟩ = some (.int .i64 f.at_) ∧ w.cell? ⟨b, 9, none⟩ = some f.hand ∧ (∀ o, w.frozen? ⟨b, o, none⟩ = false) ∧ b < w.heap.size := by
  unfold FlAt at h
  exact ⟨by rw [h.cell]; rfl, by rw [h.cell]; rfl, by rw [h.cell]; rfl, by rw [h.cell]; rfl, by rw [h.cell]; rfl, by rw [h.cell]; rfl, by rw [h.cell]; rfl, by rw [h.cell]; rfl, by rw [h.cell]; rfl, by rw [h.cell]; rfl, h.frozen, h.lt⟩
def Fl.new (who some_ depth : Int) : Fl := ⟨.pointer none, who, some_, depth, 0, .slice none 0 0, 0, .slice none 0 0, 0, .pointer none, 0, false⟩

theorem flNew (who s d : Int) (hw : 1 ≤ who) (h1 : 1 ≤ s) (h2 : s ≤ 64) (h3 : 1 ≤ d) (h4 : d ≤ 64) (w : World) :
    Calls Tryz.prog 26 #[.int .i64 who, .int .i64 s, .int .i64 d] w fun e w' => ∃ b, e = .returned (.tuple #[.pointer (some ⟨b, 0, none⟩), .int .i64 0]) ∧ FlAt w' b (.new who s d) ∧ w.heap.size ≤ b ∧ Fr No w w' := by
  go_enter Tryz.func26, Tryz.ntmps26
  go_wp2_with fail
  go_ret2
  exact ⟨_, rfl, Blk.new _ _ _, Nat.le_refl _, by (repeat' (first | with_reducible exact Fr.refl _ _ | with_reducible assumption | with_reducible refine Fr.setCell ?_ (Or.inr (by (first | with_reducible exact Nat.le_refl _ | (simp; done) | omega | (simp; omega)))) _ | with_reducible refine Fr.alloc ?_ _ | with_reducible refine Fr.drew ?_ | with_reducible refine Fr.drewN ?_ _ | (with_reducible refine Fr.then ?_ (by with_reducible assumption))))⟩
theorem flNew_no (who : Int) (hw : who < 1) (w : World) : Calls Tryz.prog 26 #[.int .i64 who, .int .i64 1, .int .i64 1] w fun e w' => e = .returned (.tuple #[.pointer none, .int .i64 1]) ∧ Fr No w w' := by
  go_enter Tryz.func26, Tryz.ntmps26
  go_wp2_with fail
  go_ret2
  exact ⟨rfl, by (repeat' (first | with_reducible exact Fr.refl _ _ | with_reducible assumption | with_reducible refine Fr.setCell ?_ (Or.inr (by (first | with_reducible exact Nat.le_refl _ | (simp; done) | omega | (simp; omega)))) _ | with_reducible refine Fr.alloc ?_ _ | with_reducible refine Fr.drew ?_ | with_reducible refine Fr.drewN ?_ _ | (with_reducible refine Fr.then ?_ (by with_reducible assumption))))⟩

theorem flstage (b : Nat) (f : Fl) (w : World) (h : FlAt w b f) : Calls Tryz.prog 27 #[.pointer (some ⟨b, 0, none⟩)] w fun e w' => e = .returned (.int .i64 f.stage) ∧ w = w' := by
  obtain ⟨c0, c1, c2, c3, c4, c5, c6, c7, c8, c9, c10, c11⟩ := h.facts
  clear h
  go_enter Tryz.func27, Tryz.ntmps27
  go_wp2
  go_ret
  exact ⟨rfl, rfl⟩
theorem flstage_nil (w : World) : Calls Tryz.prog 27 #[.pointer none] w fun e w' => e = .returned (.int .i64 8) ∧ w = w' := by
  go_enter Tryz.func27, Tryz.ntmps27
  go_wp2
  go_ret
  exact ⟨rfl, rfl⟩
theorem fltaken_nil (w : World) : Calls Tryz.prog 28 #[.pointer none] w fun e w' => e = .returned (.int .i64 0) ∧ w = w' := by
  go_enter Tryz.func28, Tryz.ntmps28
  go_wp2
  go_ret
  exact ⟨rfl, rfl⟩
theorem flstale_nil (w : World) : Calls Tryz.prog 29 #[.pointer none] w fun e w' => e = .returned (.bool false) ∧ w = w' := by
  go_enter Tryz.func29, Tryz.ntmps29
  go_wp2
  go_ret
  exact ⟨rfl, rfl⟩
theorem flwaits_nil (lv : Value) (w : World) : Calls Tryz.prog 30 #[.pointer none, lv] w fun e w' => e = .returned (.bool false) ∧ w = w' := by
  go_enter Tryz.func30, Tryz.ntmps30
  go_wp2_with fail
  refine (flstage_nil _).mono ?_
  rintro e w1 ⟨rfl, rfl⟩
  go_wp2_with fail
  go_ret
  exact ⟨rfl, rfl⟩
theorem flstep_nil (cv lv : Value) (w : World) : Calls Tryz.prog 25 #[.pointer none, cv, lv] w fun e w' => e = .returned (.tuple #[.agg #[.int .i64 0, .int .i64 0], .bool false, .bool false]) ∧ Fr No w w' := by
  go_enter Tryz.func25, Tryz.ntmps25
  go_wp2_with fail
  refine (flstage_nil _).mono ?_
  rintro e w1 ⟨rfl, rfl⟩
  go_wp2_with fail
  refine bodyPost_ret (by (simp [results, Tryz.results25, go_sem, *]; try rfl)) rfl ?_
  exact ⟨rfl, by (repeat' (first | with_reducible exact Fr.refl _ _ | with_reducible assumption | with_reducible refine Fr.setCell ?_ (Or.inr (by (first | with_reducible exact Nat.le_refl _ | (simp; done) | omega | (simp; omega)))) _ | with_reducible refine Fr.alloc ?_ _ | with_reducible refine Fr.drew ?_ | with_reducible refine Fr.drewN ?_ _ | (with_reducible refine Fr.then ?_ (by with_reducible assumption))))⟩
theorem items_nil (w : World) : Calls Tryz.prog 31 #[.pointer none] w fun e w' => e = .returned (.slice none 0 0) ∧ w = w' := by
  have hs : ∀ w, Calls Tryz.prog 85 #[.pointer none] w fun e w' => e = .returned (.bool true) ∧ w = w' := by
    intro w
    go_enter Tryz.func85, Tryz.ntmps85
    go_wp2
    go_ret
    exact ⟨rfl, rfl⟩
  have Hs := Lib.hid hs
  clear hs
  go_enter Tryz.func31, Tryz.ntmps31
  go_wp2_with fail
  refine (Hs.out _).mono ?_
  rintro e w1 ⟨rfl, rfl⟩
  go_wp2_with fail
  go_ret
  exact ⟨rfl, rfl⟩

/-- Which lock the stage is about. -/
def Fl.which (f : Fl) : Nat := if f.stage < 3 then 0 else 2
theorem flwhich (b : Nat) (f : Fl) (w : World) (h : FlAt w b f) : Calls Tryz.prog 127 #[.pointer (some ⟨b, 0, none⟩)] w fun e w' => e = .returned (.int .i64 f.which) ∧ w = w' := by
  obtain ⟨c0, c1, c2, c3, c4, c5, c6, c7, c8, c9, c10, c11⟩ := h.facts
  clear h
  by_cases hs : f.stage < 3
  · rw [show f.which = 0 from if_pos hs]
    go_enter Tryz.func127, Tryz.ntmps127
    go_wp2
    go_ret
    exact ⟨rfl, rfl⟩
  · rw [show f.which = 2 from if_neg hs]
    go_enter Tryz.func127, Tryz.ntmps127
    go_wp2
    go_ret
    exact ⟨rfl, rfl⟩
end Go.Proofs.YtbbbodfikgdhcaaGreatDoor
