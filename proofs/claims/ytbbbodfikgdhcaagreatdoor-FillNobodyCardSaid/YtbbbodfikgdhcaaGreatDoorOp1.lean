/- Contracts of package op: a hand that performs a work under locks. -/
import Derived.Test.YtbbbodfikgdhcaaGreatDoorWork2
import Derived.Test.YtbbbodfikgdhcaaGreatDoorLock
import Derived.Deep.LoopGhost
namespace Go.Proofs.YtbbbodfikgdhcaaGreatDoor
open Go Go.RowKit

structure Hd where
  wb : Nat
  who : Int
  lane : Lane
  next : Int
  stage : Int
def Hd.cells (h : Hd) : Array Value := #[.pointer (some ⟨h.wb, 0, none⟩), .int .i64 h.who, .bool h.lane.a, .bool h.lane.b, .bool h.lane.c, .int .i64 h.next, .int .i64 h.stage]
def HdAt (w : World) (b : Nat) (h : Hd) : Prop := Blk w b 116 h.cells
theorem HdAt.facts {w : World} {b : Nat} {h : Hd} (x : HdAt w b h) : w.cell? ⟨b, 0, none⟩ = some (.pointer (some ⟨h.wb, 0, none⟩)) ∧ w.cell? ⟨b, 1, none⟩ = some (.int .i64 h.who) ∧ w.cell? ⟨b, 2, none⟩ = some (.bool h.lane.a) ∧ w.cell? ⟨b, 3, none⟩ = some (.bool h.lane.b) ∧
    w.cell? ⟨b, 4, none⟩ = some (.bool h.lane.c) ∧ w.cell? ⟨b, 5, none⟩ = some (.int .i64 h.next) ∧ w.cell? ⟨b, 6, none⟩ = some (.int .i64 h.stage) ∧ (∀ o, w.frozen? ⟨b, o, none⟩ = false) ∧ b < w.heap.size := by
  unfold HdAt at x
  exact ⟨by rw [x.cell]; rfl, by rw [x.cell]; rfl, by rw [x.cell]; rfl, by rw [x.cell]; rfl, by rw [x.cell]; rfl, by rw [x.cell]; rfl, by rw [x.cell]; rfl, x.frozen, x.lt⟩
theorem HdAt.fr {F : Nat → Prop} {w w' : World} {b : Nat} {h : Hd} (x : HdAt w b h) (hf : Fr F w w') (hn : ¬ F b) : HdAt w' b h := Blk.fr x hf hn

/-- Where a hand begins. -/
def Hd.new (wb : Nat) (who : Int) (l : Lane) : Hd := { wb := wb, who := who, lane := l, next := l.next 0, stage := if l.next 0 = 3 then 1 else 0 }

theorem newHand (wb : Nat) (who : Int) (l : Lane) (w : World) : Calls Tryz.prog 16 #[.pointer (some ⟨wb, 0, none⟩), .int .i64 who, l.v] w fun e w' => ∃ b, e = .returned (.pointer (some ⟨b, 0, none⟩)) ∧ HdAt w' b (.new wb who l) ∧ w.heap.size ≤ b ∧ Fr No w w' := by
  obtain ⟨la, lb, lc⟩ := l
  have hl : Lane.next ⟨la, lb, lc⟩ 0 = 0 ∨ Lane.next ⟨la, lb, lc⟩ 0 = 1 ∨ Lane.next ⟨la, lb, lc⟩ 0 = 2 ∨ Lane.next ⟨la, lb, lc⟩ 0 = 3 := by cases la <;> cases lb <;> cases lc <;> simp [Lane.next]
  obtain ⟨n, hn⟩ : ∃ n, n = Lane.next ⟨la, lb, lc⟩ 0 := ⟨_, rfl⟩
  rw [← hn] at hl
  have Hn := Lib.hid hn
  clear hn
  change Calls Tryz.prog 16 #[_, _, laneV la lb lc] w _
  go_enter Tryz.func16, Tryz.ntmps16
  go_wp2_with fail
  go_region_held3 (fun w' => w'.cell? ⟨w.heap.size, 0, none⟩ = some (.bool la) ∧ w'.cell? ⟨w.heap.size, 1, none⟩ = some (.bool lb) ∧ w'.cell? ⟨w.heap.size, 2, none⟩ = some (.bool lc)) (go_keep)
    (first | (go_at_call 75; refine (next_any ⟨la, lb, lc⟩ 0 _ (by omega)).mono ?_; rintro e w' ⟨rfl, hf⟩; rw [← Hn.out]; obtain ⟨q1, q2, q3⟩ := ownNo ((Blk.new w 31 #[.bool la, .bool lb, .bool lc]).drew) hf))
  rename_i hHeld
  clear hHeld q1 q2
  have hz := hf.size
  simp at hz
  have hfr := ((Fr.refl No w).alloc (.cells #[.bool la, .bool lb, .bool lc] 31)).drew.then hf
  clear hf
  have hb := Blk.new w' 116 #[.pointer (some ⟨wb, 0, none⟩), .int .i64 who, .bool la, .bool lb, .bool lc, .int .i64 n, .int .i64 0]
  have Hb := Lib.hid hb
  clear hb
  obtain rfl | rfl | rfl | rfl := hl
  all_goals
    go_wp2_with fail
    go_ret
    refine ⟨w'.heap.size, rfl, ?_, by omega, ?_⟩
    · unfold Hd.new
      rw [← Hn.out]
      first | exact Hb.out | exact Blk.new _ _ _
    · (repeat' (first | with_reducible exact Fr.refl _ _ | with_reducible assumption | with_reducible refine Fr.setCell ?_ (Or.inr (by (first | with_reducible exact Nat.le_refl _ | (simp; done) | omega | (simp; omega)))) _ | with_reducible refine Fr.alloc ?_ _ | with_reducible refine Fr.drew ?_ | with_reducible refine Fr.drewN ?_ _ | (with_reducible refine Fr.then ?_ (by with_reducible assumption))))

theorem stage_any (b : Nat) (h : Hd) (w : World) (x : HdAt w b h) : Calls Tryz.prog 19 #[.pointer (some ⟨b, 0, none⟩)] w fun e w' => e = .returned (.int .i64 h.stage) ∧ w = w' := by
  obtain ⟨c0, c1, c2, c3, c4, c5, c6, c7, c8⟩ := x.facts
  clear x
  go_enter Tryz.func19, Tryz.ntmps19
  go_wp2
  go_ret
  exact ⟨rfl, rfl⟩
theorem stage_nil (w : World) : Calls Tryz.prog 19 #[.pointer none] w fun e w' => e = .returned (.int .i64 5) ∧ w = w' := by
  go_enter Tryz.func19, Tryz.ntmps19
  go_wp2
  go_ret
  exact ⟨rfl, rfl⟩

/-- The next lock below that is to be let go. -/
def Lane.prev (l : Lane) (n : Int) : Int := if 2 ≤ n ∧ l.c = true then 2 else if 1 ≤ n ∧ l.b = true then 1 else if 0 ≤ n ∧ l.a = true then 0 else -1
def Hd.skip (h : Hd) : Hd := { h with next := h.lane.prev h.next, stage := if h.lane.prev h.next < 0 then 4 else h.stage }

theorem prev_low (l : Lane) : l.prev (-1) = -1 := by simp [Lane.prev]
theorem prev_yes (l : Lane) (n : Int) (hn : n = 0 ∧ l.a = true ∨ n = 1 ∧ l.b = true ∨ n = 2 ∧ l.c = true) : l.prev n = n := by
  rcases hn with ⟨rfl, h⟩ | ⟨rfl, h⟩ | ⟨rfl, h⟩ <;> simp [Lane.prev, h]
theorem prev_no (l : Lane) (n : Int) (hn : n = 0 ∧ l.a = false ∨ n = 1 ∧ l.b = false ∨ n = 2 ∧ l.c = false) : l.prev n = l.prev (n - 1) := by
  rcases hn with ⟨rfl, h⟩ | ⟨rfl, h⟩ | ⟨rfl, h⟩ <;> simp [Lane.prev, h]

set_option maxHeartbeats 1000000 in
theorem skip_any (b : Nat) (h : Hd) (hn : -1 ≤ h.next ∧ h.next ≤ 2) (w : World) (x : HdAt w b h) :
    Calls Tryz.prog 123 #[.pointer (some ⟨b, 0, none⟩)] w fun e w' => e = .returned (.tuple #[]) ∧ HdAt w' b h.skip ∧ Fr (One b) w w' := by
  obtain ⟨wb, who, l, n, st⟩ := h
  obtain ⟨la, lb, lc⟩ := l
  go_enter Tryz.func123, Tryz.ntmps123
  go_wp2
  go_loopg [2] ((n + 1).toNat) (fun k _ wr => ∃ m : Int, HdAt wr b ⟨wb, who, ⟨la, lb, lc⟩, m, st⟩ ∧ Fr (One b) w wr ∧ Lane.prev ⟨la, lb, lc⟩ m = Lane.prev ⟨la, lb, lc⟩ n ∧ -1 ≤ m ∧ m ≤ 2 ∧ k = (m + 1).toNat)
  case atStart => exact ⟨n, x, Fr.refl _ _, rfl, hn.1, hn.2, rfl⟩
  case round =>
    obtain ⟨m, hx, hf, hp, h1, h2, rfl⟩ := hrel
    clear x
    obtain ⟨c0, c1, c2, c3, c4, c5, c6, c7, c8⟩ := hx.facts
    have X := Lib.hid hx
    have Hp := Lib.hid hp
    have Hf := Lib.hid hf
    clear hx hp hf
    obtain rfl | rfl | rfl | rfl : m = -1 ∨ m = 0 ∨ m = 1 ∨ m = 2 := by omega
    · go_wp2_with fail
      go_quiet (fail)
      go_wp2_with fail
      go_end0
      refine ⟨rfl, ?_, ?_⟩
      · have e : Lane.prev ⟨la, lb, lc⟩ n = -1 := by rw [← Hp.out, prev_low]
        unfold Hd.skip
        rw [e]
        exact Blk.cast (Blk.set_ (Blk.drewN X.out _) 6 _) (by kernel_rfl)
      · exact (Hf.out.drewN _).set1 _ _
    · cases la
      · go_wp2_with fail
        go_quiet (fail)
        go_wp2_with fail
        go_roundg 0
        case measure => decide
        case rel => exact ⟨_, Blk.cast (Blk.set_ (Blk.drewN X.out _) 5 _) (by kernel_rfl), (Hf.out.drewN _).set1 _ _, (prev_no _ 0 (by simp)).symm.trans Hp.out, by decide, by decide, rfl⟩
      · go_wp2_with fail
        go_quiet (fail)
        go_wp2_with fail
        go_end0
        refine ⟨rfl, ?_, Hf.out.drewN _⟩
        unfold Hd.skip
        rw [← Hp.out, prev_yes _ _ (by simp)]
        exact Blk.drewN X.out _
    · cases lb
      · go_wp2_with fail
        go_quiet (fail)
        go_wp2_with fail
        go_roundg 1
        case measure => decide
        case rel => exact ⟨_, Blk.cast (Blk.set_ (Blk.drewN X.out _) 5 _) (by kernel_rfl), (Hf.out.drewN _).set1 _ _, (prev_no _ 1 (by simp)).symm.trans Hp.out, by decide, by decide, rfl⟩
      · go_wp2_with fail
        go_quiet (fail)
        go_wp2_with fail
        go_end0
        refine ⟨rfl, ?_, Hf.out.drewN _⟩
        unfold Hd.skip
        rw [← Hp.out, prev_yes _ _ (by simp)]
        exact Blk.drewN X.out _
    · cases lc
      · go_wp2_with fail
        go_quiet (fail)
        go_wp2_with fail
        go_roundg 2
        case measure => decide
        case rel => exact ⟨_, Blk.cast (Blk.set_ (Blk.drewN X.out _) 5 _) (by kernel_rfl), (Hf.out.drewN _).set1 _ _, (prev_no _ 2 (by simp)).symm.trans Hp.out, by decide, by decide, rfl⟩
      · go_wp2_with fail
        go_quiet (fail)
        go_wp2_with fail
        go_end0
        refine ⟨rfl, ?_, Hf.out.drewN _⟩
        unfold Hd.skip
        rw [← Hp.out, prev_yes _ _ (by simp)]
        exact Blk.drewN X.out _

theorem HdAt.off {w : World} {L : Locs} {s : St} {b : Nat} {h : Hd} (x : HdAt w b h) (hc : CoreAt w L s) : ¬ L.foot b := hc.off x (by decide)
theorem WkAt.off {w : World} {L : Locs} {s : St} {b : Nat} {y : Wk} (x : WkAt w b y) (hc : CoreAt w L s) : ¬ L.foot b := hc.off x (by decide)
theorem HdAt.ne {w : World} {b c : Nat} {h : Hd} {y : Wk} (x : HdAt w b h) (z : WkAt w c y) : b ≠ c := Blk.ne_ x z (by decide)

/-- Behind a step of a hand: the hand, its work, the core, and what was written. -/
structure HdTo (b wb : Nat) (L : Locs) (w : World) (h' : Hd) (x' : Wk) (s' : St) (w' : World) : Prop where
  hd : HdAt w' b h'
  wk : WkAt w' wb x'
  core : ∃ L', CoreAt w' L' s' ∧ L'.c = L.c ∧ (∀ k, L'.foot k → L.foot k ∨ w.heap.size ≤ k)
  fr : Fr (fun k => k = b ∨ Own2 wb L k) w w'

theorem HdTo.more {b wb : Nat} {L : Locs} {w w1 w2 : World} {h1 h2 : Hd} {x' : Wk} {s' : St} (t : HdTo b wb L w h1 x' s' w1) (hf : Fr (One b) w1 w2) (hx : HdAt w2 b h2) : HdTo b wb L w h2 x' s' w2 := by
  obtain ⟨L', k1, k2, k3⟩ := t.core
  have hoff := t.hd.off k1
  exact ⟨hx, t.wk.fr hf (fun e => t.hd.ne t.wk e.symm), ⟨L', k1.fr hf (fun k hk e => hoff (e ▸ hk)), k2, k3⟩, t.fr.trans hf (fun _ e => e) (fun _ _ e => .inl e)⟩

/-- A hand behind a part of its work. -/
def Hd.part (h : Hd) (d : Bool) : Hd := if d then Hd.skip { h with next := 2, stage := 3 } else { h with stage := 2 }

theorem parts_of (b : Nat) (h : Hd) (x x' : Wk) (L : Locs) (s s' : St) (d : Bool) (w : World) (hx : HdAt w b h) (hw : WkAt w h.wb x) (hc : CoreAt w L s)
    (hs : ∀ w1, WkAt w1 h.wb x → CoreAt w1 L s → Calls Tryz.prog 59 #[.pointer (some ⟨h.wb, 0, none⟩), .pointer (some ⟨L.c, 0, none⟩)] w1 fun e w' => e = .returned (.bool d) ∧ WkTo h.wb L w1 x' s' w') :
    Calls Tryz.prog 77 #[.pointer (some ⟨b, 0, none⟩), .pointer (some ⟨L.c, 0, none⟩)] w fun e w' => e = .returned (.tuple #[]) ∧ HdTo b h.wb L w (h.part d) x' s' w' := by
  obtain ⟨wb, who, l, n, st⟩ := h
  obtain ⟨c0, c1, c2, c3, c4, c5, c6, c7, c8⟩ := hx.facts
  have hne := hx.ne hw
  have hoff := hx.off hc
  have hwoff := hw.off hc
  have hzc := hc.lt
  have hzw := hw.lt
  have hf0 : Fr (One b) w (w.setCell ⟨b, 6, none⟩ (.int .i64 2)) := (Fr.refl _ _).set1 _ _
  have hx0 : HdAt (w.setCell ⟨b, 6, none⟩ (.int .i64 2)) b ⟨wb, who, l, n, 2⟩ := Blk.cast (Blk.set_ hx 6 _) (by kernel_rfl)
  have hw0 := hw.fr hf0 (fun e => hne e.symm)
  have hc0 := hc.fr hf0 (fun k hk e => hoff (e ▸ hk))
  have Hs := Lib.hid (hs _ hw0 hc0)
  clear hs
  have key : ∀ w1, WkTo wb L (w.setCell ⟨b, 6, none⟩ (.int .i64 2)) x' s' w1 → HdTo b wb L w ⟨wb, who, l, n, 2⟩ x' s' w1 := by
    intro w1 ht
    obtain ⟨L', h1, h2, h3⟩ := ht.core
    refine ⟨hx0.fr ht.fr (fun e => by rcases e with e | e; exact hne e; exact hoff e), ht.wk, ⟨L', h1, h2, fun k hk => ?_⟩, hf0.trans ht.fr (fun i e => .inl e) (fun i _ e => .inr e)⟩
    rcases h3 k hk with e | e
    · exact .inl e
    · exact .inr (by have : (w.setCell ⟨b, 6, none⟩ (.int .i64 2)).heap.size = w.heap.size := by simp [World.setCell]
                     omega)
  have Hkey := Lib.hid key
  clear key hw0 hc0 hx0 hf0
  have Hx := Lib.hid hx
  have Hc := Lib.hid hc
  have Hw := Lib.hid hw
  have Hz := Lib.hid hzc
  have Hoff := Lib.hid hoff
  have Hwoff := Lib.hid hwoff
  clear hx hc hw hzc hoff hwoff
  cases d
  · go_enter Tryz.func77, Tryz.ntmps77
    go_wp2_with fail
    refine Hs.out.mono ?_
    rintro e w1 ⟨rfl, ht⟩
    have ht := Lib.hid (Hkey.out _ ht)
    go_wp2_with fail
    go_end0
    exact ⟨rfl, ht.out⟩
  · go_enter Tryz.func77, Tryz.ntmps77
    go_wp2_with fail
    refine Hs.out.mono ?_
    rintro e w1 ⟨rfl, ht⟩
    have ht := Lib.hid (Hkey.out _ ht)
    obtain ⟨e0, e1, e2, e3, e4, e5, e6, e7, e8⟩ := ht.out.hd.facts
    clear c0 c1 c2 c3 c4 c5 c6 c7
    go_wp2_with fail
    refine (skip_any b ⟨wb, who, l, 2, 3⟩ ⟨by show (-1 : Int) ≤ 2; decide, by show (2 : Int) ≤ 2; decide⟩ _ (Blk.cast (Blk.set_ (Blk.set_ ht.out.hd 5 _) 6 _) (by kernel_rfl))).mono ?_
    rintro e w2 ⟨rfl, hk, hf⟩
    have hk := Lib.hid hk
    have hf := Lib.hid hf
    go_wp2_with fail
    go_end0
    exact ⟨rfl, ht.out.more (((Fr.refl _ _).set1 _ _).set1 _ _ |>.then hf.out) hk.out⟩

/-- A hand's step: its turn, and each further part of its work. -/
theorem step_parts (b : Nat) (h : Hd) (x x' : Wk) (L : Locs) (s s' : St) (d : Bool) (lk : Value) (w : World) (hx : HdAt w b h) (hw : WkAt w h.wb x) (hc : CoreAt w L s) (hst : h.stage = 1 ∨ h.stage = 2)
    (hs : ∀ w1, WkAt w1 h.wb x → CoreAt w1 L s → Calls Tryz.prog 59 #[.pointer (some ⟨h.wb, 0, none⟩), .pointer (some ⟨L.c, 0, none⟩)] w1 fun e w' => e = .returned (.bool d) ∧ WkTo h.wb L w1 x' s' w') :
    Calls Tryz.prog 23 #[.pointer (some ⟨b, 0, none⟩), .pointer (some ⟨L.c, 0, none⟩), lk] w fun e w' => e = .returned (.bool (h.stage == 1)) ∧ HdTo b h.wb L w (h.part d) x' s' w' := by
  have Hp := Lib.hid (parts_of b h x x' L s s' d w hx hw hc hs)
  have Hx := Lib.hid hx
  clear hs hx hw hc
  rcases hst with e | e
  all_goals
    go_enter Tryz.func23, Tryz.ntmps23
    go_wp2_with fail
    refine (stage_any b h _ Hx.out).mono ?_
    rintro e w1 ⟨rfl, rfl⟩
    rw [e]
    have e := Lib.hid e
    go_wp2_with fail
    refine Hp.out.mono ?_
    rintro e w1 ⟨rfl, ht⟩
    have ht := Lib.hid ht
    go_wp2_with fail
    go_ret
    exact ⟨by rw [e.out]; rfl, ht.out⟩
end Go.Proofs.YtbbbodfikgdhcaaGreatDoor
