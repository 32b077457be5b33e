/- Contracts: the request for the time, done in its one part. -/
import Derived.Test.YtbbbodfikgdhcaaGreatDoorWork1
namespace Go.Proofs.YtbbbodfikgdhcaaGreatDoor
open Go Go.RowKit

theorem count_clock (b : Nat) (x : Wk) (L : Locs) (s : St) (w : World) (h : WkAt w b x) (hc : CoreAt w L s) (hok : POk s.steps) (hk : x.req.kind = 12) (hb : ¬ L.foot b) :
    Calls Tryz.prog 158 #[.pointer (some ⟨b, 0, none⟩), .pointer (some ⟨L.c, 0, none⟩)] w fun e w' => e = .returned (.tuple #[]) ∧ WkAt w' b { x with rep := s.clock, done := true } ∧ Fr (One b) w w' := by
  have c0 : w.cell? ⟨b, 0, none⟩ = some (.int .i64 12) := by rw [h.at_, ← hk]; rfl
  obtain ⟨d0, d1, d2, d3, hz⟩ := hc.cells
  obtain ⟨s0, hs0⟩ : ∃ t, s.steps[0]? = some t := ⟨_, List.getElem?_eq_getElem hok.ne⟩
  have hnow : s.now = s0.at_ := nowOf_eq hs0
  have Hb := Lib.hid hb
  have H := Lib.hid h
  have Hc := Lib.hid hc
  have Hp := Lib.hid hc.prof
  have Hok := Lib.hid hok
  have Hs0 := Lib.hid hs0
  have Hn := Lib.hid hnow
  have hzb := h.lt
  clear h hc hok hs0 hnow hk hb
  go_enter Tryz.func158, Tryz.ntmps158
  go_wp2_with fail
  have hcb : ¬ One b L.c := fun e => Hb.out (.inl e.symm)
  go_region_held3 (fun w' => w'.cell? ⟨L.c, 2, none⟩ = some (.pointer (some ⟨L.pb, 0, none⟩))) (go_keep)
    (first
      | (go_at_call 42; refine (pnow L.pb L.g s.steps s.ver _ (Hp.out.fr (F := No) ?_ id id) Hok.out s0 Hs0.out).mono ?_; (first | exact (Fr.refl _ _).drew | assumption); rintro e w' ⟨rfl, rfl⟩)
      | (go_at_call 196; refine (pfree L.pb L.g s.steps s.ver _ _ (Hp.out.fr (F := No) ?_ id id) Hok.out).mono ?_; (exact (Fr.refl _ _).drew); rintro e w1 ⟨rfl, hf1⟩; have hfn := ((Fr.refl No w).drew).then hf1; have k2 := (hfn.cell (p := ⟨L.c, 2, none⟩) hz id).trans d2)
      | (go_at_call 144; refine (wend b x ⟨0, 0, 0, s0.at_, 0, 0, freeAt s.steps s0.at_, 0, 0⟩ _ (H.out.fr (F := No) ?_ id)).mono ?_; assumption; rintro e w2 ⟨rfl, hw, hf2⟩; have k3 := (hf2.cell (p := ⟨L.c, 2, none⟩) (Nat.lt_of_lt_of_le hz hfn.size) hcb).trans k2))
  all_goals
    go_wp2
    go_end0
    refine ⟨rfl, ?_, Fr.noThen (by assumption) (by assumption)⟩
    have e : s.clock = ⟨0, 0, 0, s0.at_, 0, 0, freeAt s.steps s0.at_, 0, 0⟩ := by unfold St.clock; rw [Hn.out]; rfl
    rw [e]
    assumption

/-- A work and a core: which blocks may be written. -/
def Own2 (b : Nat) (L : Locs) : Nat → Prop := fun k => k = b ∨ L.foot k
/-- Behind a part of a work: the work, the core, and what was written. -/
structure WkTo (b : Nat) (L : Locs) (w : World) (x' : Wk) (s' : St) (w' : World) : Prop where
  wk : WkAt w' b x'
  core : ∃ L', CoreAt w' L' s' ∧ L'.c = L.c ∧ (∀ k, L'.foot k → L.foot k ∨ w.heap.size ≤ k)
  fr : Fr (Own2 b L) w w'

theorem serve_clock (b : Nat) (x : Wk) (L : Locs) (s : St) (w : World) (h : WkAt w b x) (hc : CoreAt w L s) (hok : POk s.steps) (hk : x.req.kind = 12) (hb : ¬ L.foot b) :
    Calls Tryz.prog 110 #[.pointer (some ⟨b, 0, none⟩), .pointer (some ⟨L.c, 0, none⟩)] w fun e w' => e = .returned (.tuple #[]) ∧ WkTo b L w { x with rep := s.clock, done := true } s w' := by
  have c0 : w.cell? ⟨b, 0, none⟩ = some (.int .i64 12) := by rw [h.at_, ← hk]; rfl
  have H := Lib.hid h
  have Hc := Lib.hid hc
  have Hok := Lib.hid hok
  have Hk := Lib.hid hk
  have Hb := Lib.hid hb
  clear h hc hok hk hb
  go_enter Tryz.func110, Tryz.ntmps110
  go_wp2_with fail
  refine (count_clock b x L s _ H.out Hc.out Hok.out Hk.out Hb.out).mono ?_
  rintro e w1 ⟨rfl, hw, hf⟩
  go_wp2_with fail
  go_end0
  exact ⟨rfl, hw, ⟨L, Hc.out.fr hf (fun k hk e => Hb.out (e ▸ hk)), rfl, fun k hk => .inl hk⟩, hf.mono fun i _ e => .inl e⟩

/-- A part of a request: what 'serve' does, and the part is counted. -/
theorem step_serve (b : Nat) (x x' : Wk) (L : Locs) (s s' : St) (w : World) (h : WkAt w b x) (hc : CoreAt w L s) (hb : ¬ L.foot b) (hd : x.done = false) (hm : x.commit = false) (hcl : x.part ≠ 0 ∨ s.closed = false)
    (hs : Calls Tryz.prog 110 #[.pointer (some ⟨b, 0, none⟩), .pointer (some ⟨L.c, 0, none⟩)] w fun e w' => e = .returned (.tuple #[]) ∧ WkTo b L w x' s' w') :
    Calls Tryz.prog 59 #[.pointer (some ⟨b, 0, none⟩), .pointer (some ⟨L.c, 0, none⟩)] w fun e w' => e = .returned (.bool x'.done) ∧ WkTo b L w { x' with part := wrap64 (x'.part + 1) } s' w' := by
  have c11 : w.cell? ⟨b, 11, none⟩ = some (.bool false) := by rw [h.at_, ← hm]; rfl
  have c21 : w.cell? ⟨b, 21, none⟩ = some (.int .i64 x.part) := by rw [h.at_]; rfl
  obtain ⟨d0, d1, d2, d3, hz⟩ := hc.cells
  have H := Lib.hid h
  have Hc := Lib.hid hc
  have Hb := Lib.hid hb
  have Hs := Lib.hid hs
  have Hd := Lib.hid hd
  have hcl2 : x.part = 0 ∧ s.closed = false ∨ (x.part == 0) = false := by
    by_cases e : x.part = 0
    · exact .inl ⟨e, hcl.resolve_left (fun h => h e)⟩
    · exact .inr (beq_eq_false_iff_ne.2 e)
  clear h hc hb hs hd hm hcl
  have go : ∀ w', WkTo b L w x' s' w' → (∀ o, w'.frozen? ⟨b, o, none⟩ = false) ∧ w'.cell? ⟨b, 21, none⟩ = some (.int .i64 x'.part) ∧ w'.cell? ⟨b, 22, none⟩ = some (.bool x'.done) :=
    fun w' hw => ⟨hw.wk.froz, by rw [hw.wk.at_]; rfl, by rw [hw.wk.at_]; rfl⟩
  have fin : ∀ w', WkTo b L w x' s' w' → WkTo b L w { x' with part := wrap64 (x'.part + 1) } s' (w'.setCell ⟨b, 21, none⟩ (.int .i64 (wrap64 (x'.part + 1)))) := by
    intro w' hw
    obtain ⟨L', hc', h1, h2⟩ := hw.core
    have hbl : ¬ L'.foot b := fun hk => by
      rcases h2 b hk with h | h
      · exact Hb.out h
      · have := H.out.lt; omega
    have hf1 : Fr (One b) w' (w'.setCell ⟨b, 21, none⟩ (.int .i64 (wrap64 (x'.part + 1)))) := (Fr.refl _ _).set1 _ _
    exact ⟨Blk.cast (Blk.set_ hw.wk 21 _) (by kernel_rfl), ⟨L', hc'.fr hf1 (fun k hk e => hbl (e ▸ hk)), h1, h2⟩, hw.fr.trans hf1 (fun _ h => h) (fun i _ e => .inl e)⟩
  have Hgo := Lib.hid go
  have Hfin := Lib.hid fin
  clear go fin
  rcases hcl2 with ⟨hp, hcl⟩ | hp
  · rw [hp] at c21
    rw [hcl] at d3
    clear hp hcl
    go_enter Tryz.func59, Tryz.ntmps59
    go_wp2_with fail
    refine (done_any b x _ H.out).mono ?_
    rintro e w1 ⟨rfl, rfl⟩
    rw [Hd.out]
    go_wp2_with fail
    refine (none_no L s _ Hc.out).mono ?_
    rintro e w1 ⟨rfl, rfl⟩
    go_wp2_with fail
    refine Hs.out.mono ?_
    rintro e w1 ⟨rfl, hw⟩
    obtain ⟨q0, q1, q2⟩ := Hgo.out _ hw
    have hw2 := Lib.hid (Hfin.out _ hw)
    clear hw
    go_wp2_with fail
    go_ret
    exact ⟨rfl, hw2.out⟩
  · go_enter Tryz.func59, Tryz.ntmps59
    go_wp2_with fail
    refine (done_any b x _ H.out).mono ?_
    rintro e w1 ⟨rfl, rfl⟩
    rw [Hd.out]
    go_wp2_with fail
    refine (none_no L s _ Hc.out).mono ?_
    rintro e w1 ⟨rfl, rfl⟩
    go_wp2_with fail
    refine Hs.out.mono ?_
    rintro e w1 ⟨rfl, hw⟩
    obtain ⟨q0, q1, q2⟩ := Hgo.out _ hw
    have hw2 := Lib.hid (Hfin.out _ hw)
    clear hw
    go_wp2_with fail
    go_ret
    exact ⟨rfl, hw2.out⟩
end Go.Proofs.YtbbbodfikgdhcaaGreatDoor
