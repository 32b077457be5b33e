/- Contracts of package lock: who holds which lock. -/
import Derived.Test.YtbbbodfikgdhcaaGreatDoorRule
namespace Go.Proofs.YtbbbodfikgdhcaaGreatDoor
open Go Go.RowKit

/-- The locks' owners, and how often one was taken. -/
structure Lk where
  o0 : Int
  o1 : Int
  o2 : Int
  n : Int
def Lk.cells (l : Lk) : Array Value := #[.int .i64 l.o0, .int .i64 l.o1, .int .i64 l.o2, .int .i64 l.n]
def LockAt (w : World) (k : Nat) (l : Lk) : Prop := Blk w k 29 l.cells
theorem LockAt.facts {w : World} {k : Nat} {l : Lk} (h : LockAt w k l) : w.cell? ⟨k, 0, none⟩ = some (.int .i64 l.o0) ∧ w.cell? ⟨k, 1, none⟩ = some (.int .i64 l.o1) ∧ w.cell? ⟨k, 2, none⟩ = some (.int .i64 l.o2) ∧ w.cell? ⟨k, 3, none⟩ = some (.int .i64 l.n) ∧
    (∀ o, w.frozen? ⟨k, o, none⟩ = false) ∧ k < w.heap.size := by
  unfold LockAt at h
  exact ⟨by rw [h.cell]; rfl, by rw [h.cell]; rfl, by rw [h.cell]; rfl, by rw [h.cell]; rfl, h.frozen, h.lt⟩
theorem LockAt.fr {F : Nat → Prop} {w w' : World} {k : Nat} {l : Lk} (h : LockAt w k l) (hf : Fr F w w') (hn : ¬ F k) : LockAt w' k l := Blk.fr h hf hn

def Lk.own (l : Lk) (k : Nat) : Int := if k = 0 then l.o0 else if k = 1 then l.o1 else l.o2
def Lk.set (l : Lk) (k : Nat) (v : Int) : Lk := if k = 0 then { l with o0 := v } else if k = 1 then { l with o1 := v } else { l with o2 := v }

theorem owner_any (a : Nat) (l : Lk) (k : Nat) (hk : k < 3) (w : World) (h : LockAt w a l) : Calls Tryz.prog 76 #[.pointer (some ⟨a, 0, none⟩), .int .i64 k] w fun e w' => e = .returned (.int .i64 (l.own k)) ∧ w = w' := by
  obtain ⟨h0, h1, h2, h3, h4, h5⟩ := h.facts
  clear h
  obtain rfl | rfl | rfl : k = 0 ∨ k = 1 ∨ k = 2 := by omega
  all_goals
    go_enter Tryz.func76, Tryz.ntmps76
    go_wp2
    go_ret
    exact ⟨rfl, rfl⟩

theorem owner_out (a : Nat) (l : Lk) (k : Nat) (hk : k = 3) (w : World) (_h : LockAt w a l) : Calls Tryz.prog 76 #[.pointer (some ⟨a, 0, none⟩), .int .i64 k] w fun e w' => e = .returned (.int .i64 0) ∧ w = w' := by
  subst hk
  go_enter Tryz.func76, Tryz.ntmps76
  go_wp2
  go_ret
  exact ⟨rfl, rfl⟩

def Lk.held (l : Lk) (who : Int) : Lane := ⟨l.o0 == who, l.o1 == who, l.o2 == who⟩
theorem held_any (a : Nat) (l : Lk) (who : Int) (hw : 1 ≤ who) (w : World) (h : LockAt w a l) : Calls Tryz.prog 45 #[.pointer (some ⟨a, 0, none⟩), .int .i64 who] w fun e w' => e = .returned (l.held who).v ∧ Fr No w w' := by
  have hne : (who != 0) = true := by rw [bne_iff_ne]; omega
  have H := Lib.hid h
  clear h
  have h5 := H.out.facts.2.2.2.2.2
  go_enter Tryz.func45, Tryz.ntmps45
  go_wp2_with fail
  refine wp_loop_rounds 4 ?_
  rw [rounds_succ]
  go_wp2_with (go_at_call 76; refine (owner_any a l 0 (by omega) _ (H.out.fr (F := No) (by (repeat' (first | with_reducible exact Fr.refl _ _ | with_reducible assumption | with_reducible refine Fr.setCell ?_ (Or.inr (by (first | with_reducible exact Nat.le_refl _ | (simp; done) | omega | (simp; omega)))) _ | with_reducible refine Fr.alloc ?_ _ | with_reducible refine Fr.drew ?_ | with_reducible refine Fr.drewN ?_ _ | (with_reducible refine Fr.then ?_ (by with_reducible assumption))))) id)).mono ?_; rintro e w1 ⟨rfl, rfl⟩)
  rw [rounds_succ]
  go_wp2_with (go_at_call 76; refine (owner_any a l 1 (by omega) _ (H.out.fr (F := No) (by (repeat' (first | with_reducible exact Fr.refl _ _ | with_reducible assumption | with_reducible refine Fr.setCell ?_ (Or.inr (by (first | with_reducible exact Nat.le_refl _ | (simp; done) | omega | (simp; omega)))) _ | with_reducible refine Fr.alloc ?_ _ | with_reducible refine Fr.drew ?_ | with_reducible refine Fr.drewN ?_ _ | (with_reducible refine Fr.then ?_ (by with_reducible assumption))))) id)).mono ?_; rintro e w1 ⟨rfl, rfl⟩)
  rw [rounds_succ]
  go_wp2_with (go_at_call 76; refine (owner_any a l 2 (by omega) _ (H.out.fr (F := No) (by (repeat' (first | with_reducible exact Fr.refl _ _ | with_reducible assumption | with_reducible refine Fr.setCell ?_ (Or.inr (by (first | with_reducible exact Nat.le_refl _ | (simp; done) | omega | (simp; omega)))) _ | with_reducible refine Fr.alloc ?_ _ | with_reducible refine Fr.drew ?_ | with_reducible refine Fr.drewN ?_ _ | (with_reducible refine Fr.then ?_ (by with_reducible assumption))))) id)).mono ?_; rintro e w1 ⟨rfl, rfl⟩)
  rw [rounds_succ]
  go_wp2
  go_returns
  exact ⟨by unfold Lk.held Lk.own Lane.v; rfl, by (repeat' (first | with_reducible exact Fr.refl _ _ | with_reducible assumption | with_reducible refine Fr.setCell ?_ (Or.inr (by (first | with_reducible exact Nat.le_refl _ | (simp; done) | omega | (simp; omega)))) _ | with_reducible refine Fr.alloc ?_ _ | with_reducible refine Fr.drew ?_ | with_reducible refine Fr.drewN ?_ _ | (with_reducible refine Fr.then ?_ (by with_reducible assumption))))⟩

def Lk.tryE (l : Lk) (k : Nat) (who : Int) : Int := if (l.held who).next k < 3 then 17 else if l.own k ≠ 0 then 18 else 0
def Lk.tryL (l : Lk) (k : Nat) (who : Int) : Lk := if l.tryE k who = 0 then { l.set k who with n := wrap64 (l.n + 1) } else l

/-- A lock that is free is taken, where no later one is held. -/
theorem try_ok (a : Nat) (l : Lk) (k : Nat) (hk : k < 3) (who : Int) (hw : 1 ≤ who) (w : World) (h : LockAt w a l) (hn : (l.held who).next k = 3) (ho : l.own k = 0) :
    Calls Tryz.prog 49 #[.pointer (some ⟨a, 0, none⟩), .int .i64 k, .int .i64 who] w fun e w' => e = .returned (.int .i64 0) ∧ LockAt w' a { l.set k who with n := wrap64 (l.n + 1) } ∧ Fr (One a) w w' := by
  have H := Lib.hid h
  have Hn := Lib.hid hn
  have Ho := Lib.hid ho
  clear h hn ho
  go_enter Tryz.func49, Tryz.ntmps49
  go_wp2_with fail
  refine (held_any a l who hw _ H.out).mono ?_
  rintro e w1 ⟨rfl, hf⟩
  go_wp2_with fail
  refine (next_any (l.held who) k _ (by omega)).mono ?_
  rintro e w2 ⟨rfl, hf2⟩
  rw [Hn.out]
  have hf3 := hf.then hf2
  have hb := H.out.fr hf3 id
  have Hb := Lib.hid hb
  obtain ⟨h0, h1, h2, h3, h4, h5⟩ := hb.facts
  clear hb
  obtain rfl | rfl | rfl : k = 0 ∨ k = 1 ∨ k = 2 := by omega
  · have ho : l.o0 = 0 := Ho.out
    rw [ho] at h0
    clear ho
    go_wp2_with fail
    go_ret
    exact ⟨rfl, ((Hb.out.set_ 0 _).set_ 3 _), (hf3.any.set1 _ _).set1 _ _⟩
  · have ho : l.o1 = 0 := Ho.out
    rw [ho] at h1
    clear ho
    go_wp2_with fail
    go_ret
    exact ⟨rfl, ((Hb.out.set_ 1 _).set_ 3 _), (hf3.any.set1 _ _).set1 _ _⟩
  · have ho : l.o2 = 0 := Ho.out
    rw [ho] at h2
    clear ho
    go_wp2_with fail
    go_ret
    exact ⟨rfl, ((Hb.out.set_ 2 _).set_ 3 _), (hf3.any.set1 _ _).set1 _ _⟩

/-- A lock that someone else holds is not taken. -/
theorem try_held (a : Nat) (l : Lk) (k : Nat) (hk : k < 3) (who : Int) (hw : 1 ≤ who) (w : World) (h : LockAt w a l) (hn : (l.held who).next k = 3) (ho : l.own k ≠ 0) :
    Calls Tryz.prog 49 #[.pointer (some ⟨a, 0, none⟩), .int .i64 k, .int .i64 who] w fun e w' => e = .returned (.int .i64 18) ∧ Fr No w w' := by
  have H := Lib.hid h
  have Hn := Lib.hid hn
  have Ho := Lib.hid ho
  clear h hn ho
  go_enter Tryz.func49, Tryz.ntmps49
  go_wp2_with fail
  refine (held_any a l who hw _ H.out).mono ?_
  rintro e w1 ⟨rfl, hf⟩
  go_wp2_with fail
  refine (next_any (l.held who) k _ (by omega)).mono ?_
  rintro e w2 ⟨rfl, hf2⟩
  rw [Hn.out]
  have hf3 := hf.then hf2
  obtain ⟨h0, h1, h2, h3, h4, h5⟩ := (H.out.fr hf3 id).facts
  obtain rfl | rfl | rfl : k = 0 ∨ k = 1 ∨ k = 2 := by omega
  · have ho : (l.o0 != 0) = true := by rw [bne_iff_ne]; exact Ho.out
    go_wp2_with fail
    go_ret
    exact ⟨rfl, hf3⟩
  · have ho : (l.o1 != 0) = true := by rw [bne_iff_ne]; exact Ho.out
    go_wp2_with fail
    go_ret
    exact ⟨rfl, hf3⟩
  · have ho : (l.o2 != 0) = true := by rw [bne_iff_ne]; exact Ho.out
    go_wp2_with fail
    go_ret
    exact ⟨rfl, hf3⟩

/-- A lock that one holds is let go. -/
theorem free_ok (a : Nat) (l : Lk) (k : Nat) (hk : k < 3) (who : Int) (hw : 1 ≤ who) (w : World) (h : LockAt w a l) (ho : l.own k = who) :
    Calls Tryz.prog 50 #[.pointer (some ⟨a, 0, none⟩), .int .i64 k, .int .i64 who] w fun e w' => e = .returned (.int .i64 0) ∧ LockAt w' a (l.set k 0) ∧ Fr (One a) w w' := by
  have H := Lib.hid h
  obtain ⟨h0, h1, h2, h3, h4, h5⟩ := h.facts
  have Ho := Lib.hid ho
  clear h ho
  obtain rfl | rfl | rfl : k = 0 ∨ k = 1 ∨ k = 2 := by omega
  · have ho : l.o0 = who := Ho.out
    rw [ho] at h0
    clear ho
    go_enter Tryz.func50, Tryz.ntmps50
    go_wp2
    go_ret
    exact ⟨rfl, H.out.set_ 0 _, (Fr.refl _ _).set1 _ _⟩
  · have ho : l.o1 = who := Ho.out
    rw [ho] at h1
    clear ho
    go_enter Tryz.func50, Tryz.ntmps50
    go_wp2
    go_ret
    exact ⟨rfl, H.out.set_ 1 _, (Fr.refl _ _).set1 _ _⟩
  · have ho : l.o2 = who := Ho.out
    rw [ho] at h2
    clear ho
    go_enter Tryz.func50, Tryz.ntmps50
    go_wp2
    go_ret
    exact ⟨rfl, H.out.set_ 2 _, (Fr.refl _ _).set1 _ _⟩

/-- Two arrays of three numbers are held against each other. -/
theorem arr3 (d : Nat) (a b c x y z : Int) (w : World) : (Op.equalIn (d + 2) 27 (.agg #[.int .i64 a, .int .i64 b, .int .i64 c]) (.agg #[.int .i64 x, .int .i64 y, .int .i64 z])).run Tryz.prog w = .ok (a == x && (b == y && c == z)) w := by
  have h3 : ∀ (p q : Int) (w : World), (Op.equalIn (d + 1) 3 (.int .i64 p) (.int .i64 q)).run Tryz.prog w = .ok (p == q) w := fun p q w => run_equalIn_int w d 3 _ _ p q Tryz.underlying3
  have hs : ∀ w, (sizeOf 3).run Tryz.prog w = .ok 1 w := fun _ => by kernel_rfl
  have hp : ∀ (u v t : Value) w, (part 3 #[u, v, t] 0).run Tryz.prog w = .ok u w := fun _ _ _ _ => by kernel_rfl
  have hp1 : ∀ (u v t : Value) w, (part 3 #[u, v, t] 1).run Tryz.prog w = .ok v w := fun _ _ _ _ => by kernel_rfl
  have hp2 : ∀ (u v t : Value) w, (part 3 #[u, v, t] 2).run Tryz.prog w = .ok t w := fun _ _ _ _ => by kernel_rfl
  rw [Op.equalIn]
  simp only [Sem.run_bind, run_underlying Tryz.underlying27, Result.andThen_ok, hs, Nat.mul_one]
  rw [Std.Legacy.Range.forIn_eq_forIn_range']
  simp only [Std.Legacy.Range.size]
  by_cases ha : a = x <;> by_cases hb : b = y <;> by_cases hc : c = z <;> simp [List.range', hp, hp1, hp2, h3, ha, hb, hc]

def Lk.idle (l : Lk) : Bool := l.o0 == 0 && (l.o1 == 0 && l.o2 == 0)
theorem lidle_any (a : Nat) (l : Lk) (w : World) (h : LockAt w a l) :
    Calls Tryz.prog 48 #[.pointer (some ⟨a, 0, none⟩)] w fun e w' => e = .returned (.bool l.idle) ∧ w = w' := by
  obtain ⟨h0, h1, h2, h3, h4, h5⟩ := h.facts
  clear h
  have ha := fun w => arr3 9998 l.o0 l.o1 l.o2 0 0 0 w
  go_enter Tryz.func48, Tryz.ntmps48
  go_wp2
  go_ret
  exact ⟨rfl, rfl⟩

end Go.Proofs.YtbbbodfikgdhcaaGreatDoor
