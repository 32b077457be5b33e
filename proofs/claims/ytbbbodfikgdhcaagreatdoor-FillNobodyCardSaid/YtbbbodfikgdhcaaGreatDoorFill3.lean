/- Contracts of a pass's steps: a lock taken, and let go. -/
import Derived.Test.YtbbbodfikgdhcaaGreatDoorFill2
namespace Go.Proofs.YtbbbodfikgdhcaaGreatDoor
open Go Go.RowKit

theorem FlAt.neL {w : World} {b a : Nat} {f : Fl} {l : Lk} (x : FlAt w b f) (z : LockAt w a l) : b ≠ a := Blk.ne_ x z (by decide)

theorem FlAt.stage_ {w : World} {b : Nat} {f : Fl} (h : FlAt w b f) (n : Int) : FlAt (w.setCell ⟨b, 4, none⟩ (.int .i64 n)) b { f with stage := n } := by
  obtain ⟨pl, who, s, d, st, it, ve, ch, at_, ha, ta, sl⟩ := f
  exact Blk.cast (Blk.set_ h 4 _) (by kernel_rfl)

theorem fllock (b a : Nat) (f : Fl) (l : Lk) (w : World) (h : FlAt w b f) (hl : LockAt w a l) (hs : 0 ≤ f.stage ∧ f.stage ≤ 8) (hw : 1 ≤ f.who) (hn : (l.held f.who).next f.which = 3) (ho : l.own f.which = 0) :
    Calls Tryz.prog 80 #[.pointer (some ⟨b, 0, none⟩), .pointer (some ⟨a, 0, none⟩)] w fun e w' => e = .returned (.tuple #[]) ∧ FlAt w' b { f with stage := f.stage + 1 } ∧ LockAt w' a { l.set f.which f.who with n := wrap64 (l.n + 1) } ∧ Fr (fun i => i = b ∨ i = a) w w' := by
  obtain ⟨c0, c1, c2, c3, c4, c5, c6, c7, c8, c9, c10, c11⟩ := h.facts
  obtain ⟨hs1, hs2⟩ := hs
  have hwh : f.which < 3 := by unfold Fl.which; split <;> omega
  have hab := h.neL hl
  have H := Lib.hid h
  have HL := Lib.hid hl
  have Hn := Lib.hid hn
  have Ho := Lib.hid ho
  have Hab := Lib.hid hab
  clear h hl hn ho c0 c2 c3 c5 c6 c7 c8 c9 hab
  go_enter Tryz.func80, Tryz.ntmps80
  go_wp2_with fail
  go_region_held3 (fun w' => w'.cell? ⟨b, 1, none⟩ = some (.int .i64 f.who)) (go_keep)
    (first
      | (go_at_call 127; refine (flwhich b f _ (H.out.fr (F := No) ((Fr.refl _ _).drew) id)).mono ?_; rintro e w' ⟨rfl, rfl⟩)
      | (go_at_call 49; refine (try_ok a l f.which hwh f.who hw _ (HL.out.fr (F := No) ((Fr.refl _ _).drew) id) Hn.out Ho.out).mono ?_; rintro e w1 ⟨rfl, hl1, hf1⟩; have k0 := (hf1.cell (p := ⟨b, 1, none⟩) c11 Hab.out).trans c1))
  rename_i hHeld
  have h1 : FlAt w1 b f := H.out.fr (w := w) (w' := w1) (F := One a) ((Fr.refl No w).drew.noThen hf1) Hab.out
  have Hl1 := Lib.hid hl1
  have Hf1 : Hid (Fr (One a) w w1) := Lib.hid ((Fr.refl No w).drew.noThen hf1)
  have q4 := (hf1.cell (p := ⟨b, 4, none⟩) c11 Hab.out).trans c4
  obtain ⟨_, _, _, _, _, _, _, _, _, _, q10, q11⟩ := h1.facts
  have h2 := Lib.hid (h1.stage_ (f.stage + 1))
  clear hHeld k0 hl1 hf1 h1 c1 c4 c10
  go_wp2_with fail
  go_end0
  refine ⟨rfl, h2.out, Hl1.out.fr ((Fr.refl (One b) _).set1 _ _) (fun e => Hab.out e.symm), ?_⟩
  exact Hf1.out.trans ((Fr.refl (One b) _).set1 _ _) (fun _ e => .inr e) (fun _ _ e => .inl e)

theorem flfree (b a : Nat) (f : Fl) (l : Lk) (w : World) (h : FlAt w b f) (hl : LockAt w a l) (hs : 0 ≤ f.stage ∧ f.stage ≤ 8) (hw : 1 ≤ f.who) (ho : l.own f.which = f.who) :
    Calls Tryz.prog 82 #[.pointer (some ⟨b, 0, none⟩), .pointer (some ⟨a, 0, none⟩)] w fun e w' => e = .returned (.tuple #[]) ∧ FlAt w' b { f with stage := f.stage + 1 } ∧ LockAt w' a (l.set f.which 0) ∧ Fr (fun i => i = b ∨ i = a) w w' := by
  obtain ⟨c0, c1, c2, c3, c4, c5, c6, c7, c8, c9, c10, c11⟩ := h.facts
  obtain ⟨hs1, hs2⟩ := hs
  have hwh : f.which < 3 := by unfold Fl.which; split <;> omega
  have hab := h.neL hl
  have H := Lib.hid h
  have HL := Lib.hid hl
  have Ho := Lib.hid ho
  have Hab := Lib.hid hab
  clear h hl ho c0 c2 c3 c5 c6 c7 c8 c9 hab
  go_enter Tryz.func82, Tryz.ntmps82
  go_wp2_with fail
  go_region_held3 (fun w' => w'.cell? ⟨b, 1, none⟩ = some (.int .i64 f.who)) (go_keep)
    (first
      | (go_at_call 127; refine (flwhich b f _ (H.out.fr (F := No) ((Fr.refl _ _).drew) id)).mono ?_; rintro e w' ⟨rfl, rfl⟩)
      | (go_at_call 50; refine (free_ok a l f.which hwh f.who hw _ (HL.out.fr (F := No) ((Fr.refl _ _).drew) id) Ho.out).mono ?_; rintro e w1 ⟨rfl, hl1, hf1⟩; have k0 := (hf1.cell (p := ⟨b, 1, none⟩) c11 Hab.out).trans c1))
  rename_i hHeld
  have h1 : FlAt w1 b f := H.out.fr (w := w) (w' := w1) (F := One a) ((Fr.refl No w).drew.noThen hf1) Hab.out
  have Hl1 := Lib.hid hl1
  have Hf1 : Hid (Fr (One a) w w1) := Lib.hid ((Fr.refl No w).drew.noThen hf1)
  have q4 := (hf1.cell (p := ⟨b, 4, none⟩) c11 Hab.out).trans c4
  obtain ⟨_, _, _, _, _, _, _, _, _, _, q10, q11⟩ := h1.facts
  have h2 := Lib.hid (h1.stage_ (f.stage + 1))
  clear hHeld k0 hl1 hf1 h1 c1 c4 c10
  go_wp2_with fail
  go_end0
  refine ⟨rfl, h2.out, Hl1.out.fr ((Fr.refl (One b) _).set1 _ _) (fun e => Hab.out e.symm), ?_⟩
  exact Hf1.out.trans ((Fr.refl (One b) _).set1 _ _) (fun _ e => .inr e) (fun _ _ e => .inl e)
end Go.Proofs.YtbbbodfikgdhcaaGreatDoor
