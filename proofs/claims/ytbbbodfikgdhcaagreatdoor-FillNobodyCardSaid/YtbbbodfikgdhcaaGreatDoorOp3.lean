/- Contracts of package op: a hand's further steps; what a client asked for. -/
import Derived.Test.YtbbbodfikgdhcaaGreatDoorOp2
namespace Go.Proofs.YtbbbodfikgdhcaaGreatDoor
open Go Go.RowKit

/-- A step at a lock that someone else holds does nothing. -/
theorem step_wait (b a : Nat) (h : Hd) (l : Lk) (k : Nat) (hk : k < 3) (cv : Value) (w : World) (hx : HdAt w b h) (hl : LockAt w a l) (hst : h.stage = 0) (hn : h.next = k) (hw : 1 ≤ h.who) (ho : l.own k ≠ 0) (hh : (l.held h.who).next k = 3) :
    Calls Tryz.prog 23 #[.pointer (some ⟨b, 0, none⟩), cv, .pointer (some ⟨a, 0, none⟩)] w fun e w' => e = .returned (.bool false) ∧ Fr No w w' := by
  obtain ⟨wb, who, ln, n, st⟩ := h
  obtain rfl : n = k := hn
  obtain rfl : st = 0 := hst
  simp only at hw hh
  obtain ⟨c0, c1, c2, c3, c4, c5, c6, c7, c8⟩ := hx.facts
  have hza := hl.facts.2.2.2.2.2
  have Hx := Lib.hid hx
  have Ht := Lib.hid (fun w' (h' : LockAt w' a l) => try_held a l k hk who hw w' h' hh ho)
  have Hl := Lib.hid hl
  clear hx hl ho hh
  go_enter Tryz.func23, Tryz.ntmps23
  go_wp2_with fail
  refine (stage_any b _ _ Hx.out).mono ?_
  rintro e w1 ⟨rfl, rfl⟩
  go_wp2_with fail
  go_region_held3 (fun w' => w'.cell? ⟨b, 5, none⟩ = some (.int .i64 k) ∧ w'.cell? ⟨b, 1, none⟩ = some (.int .i64 who)) (go_keep)
    (first | (go_at_call 49; refine (Ht.out _ (Hl.out.fr (F := No) (Fr.refl _ _).drew id)).mono ?_; rintro e w' ⟨rfl, hf1⟩; have k5 := (hf1.cell (p := ⟨b, 5, none⟩) c8 id).trans c5; have k1 := (hf1.cell (p := ⟨b, 1, none⟩) c8 id).trans c1))
  go_wp2_with fail
  go_ret
  exact ⟨rfl, ((Fr.refl _ _).drew).then (by assumption)⟩

theorem step_tell (b : Nat) (h : Hd) (cv lv : Value) (w : World) (hx : HdAt w b h) (hst : h.stage = 4) :
    Calls Tryz.prog 23 #[.pointer (some ⟨b, 0, none⟩), cv, lv] w fun e w' => e = .returned (.bool false) ∧ HdAt w' b { h with stage := 5 } ∧ Fr (One b) w w' := by
  obtain ⟨wb, who, ln, n, st⟩ := h
  obtain rfl : st = 4 := hst
  obtain ⟨c0, c1, c2, c3, c4, c5, c6, c7, c8⟩ := hx.facts
  have Hx := Lib.hid hx
  clear hx
  go_enter Tryz.func23, Tryz.ntmps23
  go_wp2_with fail
  refine (stage_any b _ _ Hx.out).mono ?_
  rintro e w1 ⟨rfl, rfl⟩
  go_wp2_with fail
  go_ret
  exact ⟨rfl, Blk.cast (Blk.set_ Hx.out 6 _) (by kernel_rfl), (Fr.refl _ _).set1 _ _⟩

theorem step_over (p : Option Addr) (hp : ∀ w, Calls Tryz.prog 19 #[.pointer p] w fun e w' => e = .returned (.int .i64 5) ∧ w = w') (cv lv : Value) (w : World) :
    Calls Tryz.prog 23 #[.pointer p, cv, lv] w fun e w' => e = .returned (.bool false) ∧ w = w' := by
  have Hp := Lib.hid hp
  clear hp
  go_enter Tryz.func23, Tryz.ntmps23
  go_wp2_with fail
  refine (Hp.out _).mono ?_
  rintro e w1 ⟨rfl, rfl⟩
  go_wp2_with fail
  go_ret
  exact ⟨rfl, rfl⟩

theorem give_any (b a : Nat) (h : Hd) (l : Lk) (k : Nat) (hk : k < 3) (w : World) (hx : HdAt w b h) (hl : LockAt w a l) (hn : h.next = k) (hw : 1 ≤ h.who) (ho : l.own k = h.who) :
    Calls Tryz.prog 78 #[.pointer (some ⟨b, 0, none⟩), .pointer (some ⟨a, 0, none⟩)] w fun e w' => e = .returned (.tuple #[]) ∧ HdAt w' b (Hd.skip { h with next := (k : Int) - 1 }) ∧ LockAt w' a (l.set k 0) ∧ Fr (fun i => i = b ∨ i = a) w w' := by
  obtain ⟨wb, who, ln, n, st⟩ := h
  obtain rfl : n = k := hn
  simp only at hw ho
  obtain ⟨c0, c1, c2, c3, c4, c5, c6, c7, c8⟩ := hx.facts
  have hne := hx.neL hl
  have hn1 : ¬ One a b := hne
  have hza := hl.facts.2.2.2.2.2
  have Hx := Lib.hid hx
  have Ht := Lib.hid (fun w' (h' : LockAt w' a l) => free_ok a l k hk who hw w' h' ho)
  have Hl := Lib.hid hl
  clear hx hl ho
  go_enter Tryz.func78, Tryz.ntmps78
  go_wp2_with fail
  go_region_held3 (fun w' => w'.cell? ⟨b, 5, none⟩ = some (.int .i64 k) ∧ w'.cell? ⟨b, 1, none⟩ = some (.int .i64 who)) (go_keep)
    (first | (go_at_call 50; refine (Ht.out _ (Hl.out.fr (F := No) (Fr.refl _ _).drew id)).mono ?_; rintro e w' ⟨rfl, hl1, hf1⟩; have hx1 := (HdAt.fr (Blk.drew Hx.out) hf1 hn1); obtain ⟨d0, d1, d2, d3, d4, d5, d6, d7, d8⟩ := hx1.facts; have hx1 := Lib.hid hx1; have hl1 := Lib.hid hl1; have hf1 := Lib.hid hf1))
  rename_i hl1 hf1 hx1 hHeld
  clear c0 c1 c2 c3 c4 c5 c6 c7 hHeld
  go_wp2_with fail
  refine (skip_any b ⟨wb, who, ln, (k : Int) - 1, st⟩ ⟨by show (-1 : Int) ≤ k - 1; omega, by show (k - 1 : Int) ≤ 2; omega⟩ _ (Blk.cast (Blk.set_ hx1.out 5 _) (by kernel_rfl))).mono ?_
  rintro e w3 ⟨rfl, hx3, hf3⟩
  have hx3 := Lib.hid hx3
  have hf3 := Lib.hid hf3
  go_wp2_with fail
  go_end0
  have hf2 : Fr (One b) _ w3 := ((Fr.refl (One b) _).set1 5 _).then hf3.out
  exact ⟨rfl, hx3.out, LockAt.fr hl1.out hf2 (fun e => hne e.symm), (((Fr.refl No w).drew).noThen hf1.out).trans hf2 (fun i e => .inr e) (fun i _ e => .inl e)⟩

theorem step_give (b a : Nat) (h : Hd) (l : Lk) (k : Nat) (hk : k < 3) (cv : Value) (w : World) (hx : HdAt w b h) (hl : LockAt w a l) (hst : h.stage = 3) (hn : h.next = k) (hw : 1 ≤ h.who) (ho : l.own k = h.who) :
    Calls Tryz.prog 23 #[.pointer (some ⟨b, 0, none⟩), cv, .pointer (some ⟨a, 0, none⟩)] w fun e w' => e = .returned (.bool false) ∧ HdAt w' b (Hd.skip { h with next := (k : Int) - 1 }) ∧ LockAt w' a (l.set k 0) ∧ Fr (fun i => i = b ∨ i = a) w w' := by
  have Hg := Lib.hid (give_any b a h l k hk w hx hl hn hw ho)
  have Hx := Lib.hid hx
  clear hx hl hn hw ho
  go_enter Tryz.func23, Tryz.ntmps23
  go_wp2_with fail
  refine (stage_any b _ _ Hx.out).mono ?_
  rintro e w1 ⟨rfl, rfl⟩
  rw [hst]
  clear hst
  go_wp2_with fail
  refine Hg.out.mono ?_
  rintro e w1 ⟨rfl, h1, h2, h3⟩
  have h1 := Lib.hid h1
  have h2 := Lib.hid h2
  have h3 := Lib.hid h3
  go_wp2_with fail
  go_ret
  exact ⟨rfl, h1.out, h2.out, h3.out⟩

/-- Does a hand wait? -/
def Hd.waits (h : Hd) (l : Lk) : Bool := h.stage == 0 && (l.own h.next.toNat != 0)
theorem waits_any (b a : Nat) (h : Hd) (l : Lk) (w : World) (hx : HdAt w b h) (hl : LockAt w a l) (hn : h.stage = 0 → 0 ≤ h.next ∧ h.next < 3) :
    Calls Tryz.prog 22 #[.pointer (some ⟨b, 0, none⟩), .pointer (some ⟨a, 0, none⟩)] w fun e w' => e = .returned (.bool (h.waits l)) ∧ w = w' := by
  obtain ⟨wb, who, ln, n, st⟩ := h
  obtain ⟨c0, c1, c2, c3, c4, c5, c6, c7, c8⟩ := hx.facts
  have Hx := Lib.hid hx
  have Hl := Lib.hid hl
  clear hx hl
  unfold Hd.waits
  simp only at hn ⊢
  by_cases hs : st = 0
  · subst hs
    obtain ⟨h0, h3⟩ := hn rfl
    obtain ⟨k, rfl⟩ := Int.eq_ofNat_of_zero_le h0
    rw [Int.toNat_natCast]
    clear hn
    go_enter Tryz.func22, Tryz.ntmps22
    go_wp2_with fail
    refine (stage_any b _ _ Hx.out).mono ?_
    rintro e w1 ⟨rfl, rfl⟩
    go_wp2_with fail
    refine (owner_any a l k (by omega) _ Hl.out).mono ?_
    rintro e w1 ⟨rfl, rfl⟩
    go_wp2_with fail
    go_ret
    exact ⟨rfl, rfl⟩
  · have hs1 : (st == 0) = false := beq_eq_false_iff_ne.2 hs
    rw [hs1]
    clear hn hs
    go_enter Tryz.func22, Tryz.ntmps22
    go_wp2_with fail
    refine (stage_any b _ _ Hx.out).mono ?_
    rintro e w1 ⟨rfl, rfl⟩
    go_wp2_with fail
    go_ret
    exact ⟨rfl, rfl⟩
theorem waits_nil (a : Nat) (w : World) : Calls Tryz.prog 22 #[.pointer none, .pointer (some ⟨a, 0, none⟩)] w fun e w' => e = .returned (.bool false) ∧ w = w' := by
  go_enter Tryz.func22, Tryz.ntmps22
  go_wp2_with fail
  refine (stage_nil _).mono ?_
  rintro e w1 ⟨rfl, rfl⟩
  go_wp2_with fail
  go_ret
  exact ⟨rfl, rfl⟩

theorem steps_any (l : Lane) (w : World) : Calls Tryz.prog 60 #[l.v] w fun e w' => e = .returned (.int .i64 (2 * l.len + 2)) ∧ Fr No w w' := by
  have hl : 0 ≤ l.len ∧ l.len ≤ 3 := by obtain ⟨a, b, c⟩ := l; cases a <;> cases b <;> cases c <;> decide
  obtain ⟨la, lb, lc⟩ := l
  change Calls Tryz.prog 60 #[laneV la lb lc] w _
  go_enter Tryz.func60, Tryz.ntmps60
  go_wp2_with fail
  refine (len_any ⟨la, lb, lc⟩ _).mono ?_
  rintro e w1 ⟨rfl, hf⟩
  go_wp2_with fail
  go_ret
  exact ⟨rfl, by (repeat' (first | with_reducible exact Fr.refl _ _ | with_reducible assumption | with_reducible refine Fr.setCell ?_ (Or.inr (by (first | with_reducible exact Nat.le_refl _ | (simp; done) | omega | (simp; omega)))) _ | with_reducible refine Fr.alloc ?_ _ | with_reducible refine Fr.drew ?_ | with_reducible refine Fr.drewN ?_ _ | (with_reducible refine Fr.then ?_ (by with_reducible assumption))))⟩
end Go.Proofs.YtbbbodfikgdhcaaGreatDoor
