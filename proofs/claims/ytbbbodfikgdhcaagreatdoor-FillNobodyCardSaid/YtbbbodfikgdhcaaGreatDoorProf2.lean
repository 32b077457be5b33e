/- Contracts of the profile's readers: none, Now, Version, index, Free, Least, most. -/
import Derived.Test.YtbbbodfikgdhcaaGreatDoorProf1
import Derived.Deep.RegionHeld3
namespace Go.Proofs.YtbbbodfikgdhcaaGreatDoor
open Go Go.RowKit

/-- The profile behind `p`, its steps in block `g`. -/
structure ProfAt (w : World) (p g : Nat) (S : List Step) (ver : Int) : Prop where
  ex : ∃ off cap cur, Blk w p 169 #[.slice (some ⟨g, off, none⟩) S.length cap, .int .i64 ver] ∧ Blk w g 167 cur ∧ S.length ≤ cap ∧ off + cap * 2 = cur.size ∧ StepsAt w g off S ∧ cap ≤ 9223372036854775807

theorem ProfAt.fr {F : Nat → Prop} {w w' : World} {p g : Nat} {S : List Step} {ver : Int} (h : ProfAt w p g S ver) (hf : Fr F w w') (hp : ¬ F p) (hg : ¬ F g) : ProfAt w' p g S ver := by
  obtain ⟨off, cap, cur, h1, h2, h3, h4, h5, h6⟩ := h.ex
  exact ⟨off, cap, cur, h1.fr hf hp, h2.fr hf hg, h3, h4, h5.fr hf h2.lt hg, h6⟩

/-- What a walk wants of a profile. -/
theorem ProfAt.cells {w : World} {p g : Nat} {S : List Step} {ver : Int} (h : ProfAt w p g S ver) :
    ∃ off cap, w.cell? ⟨p, 0, none⟩ = some (.slice (some ⟨g, off, none⟩) S.length cap) ∧ w.cell? ⟨p, 1, none⟩ = some (.int .i64 ver) ∧ S.length ≤ cap ∧ StepsAt w g off S ∧ p < w.heap.size ∧ g < w.heap.size ∧ p ≠ g := by
  obtain ⟨off, cap, cur, h1, h2, h3, h4, h5, h6⟩ := h.ex
  exact ⟨off, cap, by rw [h1.cell]; rfl, by rw [h1.cell]; rfl, h3, h5, h1.lt, h2.lt, h1.ne_ h2 (by decide)⟩

theorem pnone_c (p : Nat) (a : Option Addr) (n c : Nat) (w : World) (h : w.cell? ⟨p, 0, none⟩ = some (.slice a n c)) (hn : 0 < n) (hm : n ≤ 1048576) :
    Calls Tryz.prog 98 #[.pointer (some ⟨p, 0, none⟩)] w fun e w' => e = .returned (.bool false) ∧ w = w' := by
  have h0 : ((n : Int) == 0) = false := by simp; omega
  go_enter Tryz.func98, Tryz.ntmps98
  go_wp2
  go_ret
  exact ⟨rfl, rfl⟩

theorem pnow (p g : Nat) (S : List Step) (ver : Int) (w : World) (h : ProfAt w p g S ver) (hok : POk S) (s : Step) (hs : S[0]? = some s) :
    Calls Tryz.prog 42 #[.pointer (some ⟨p, 0, none⟩)] w fun e w' => e = .returned (.int .i64 s.at_) ∧ w = w' := by
  obtain ⟨off, cap, h0, h1, h2, h3, h4, h5, h6⟩ := h.cells
  obtain ⟨c0, c1⟩ := h3 0 s hs
  have hn := hok.ne
  have hl := hok.len
  clear h hok hs h3
  simp only [Nat.zero_mul, Nat.add_zero] at c0 c1
  go_enter Tryz.func42, Tryz.ntmps42
  go_wp2_with fail
  refine (pnone_c _ _ _ _ _ h0 hn hl).mono ?_
  rintro e w1 ⟨rfl, rfl⟩
  go_wp2_with fail
  go_ret
  exact ⟨rfl, rfl⟩

theorem pversion (p g : Nat) (S : List Step) (ver : Int) (w : World) (h : ProfAt w p g S ver) (hok : POk S) :
    Calls Tryz.prog 128 #[.pointer (some ⟨p, 0, none⟩)] w fun e w' => e = .returned (.int .i64 ver) ∧ w = w' := by
  obtain ⟨off, cap, h0, h1, h2, h3, h4, h5, h6⟩ := h.cells
  have hn := hok.ne
  have hl := hok.len
  clear h hok h3
  go_enter Tryz.func128, Tryz.ntmps128
  go_wp2_with fail
  refine (pnone_c _ _ _ _ _ h0 hn hl).mono ?_
  rintro e w1 ⟨rfl, rfl⟩
  go_wp2_with fail
  go_ret
  exact ⟨rfl, rfl⟩

theorem pindex (p g : Nat) (S : List Step) (ver t : Int) (w : World) (h : ProfAt w p g S ver) (hok : POk S) :
    Calls Tryz.prog 213 #[.pointer (some ⟨p, 0, none⟩), .int .i64 t] w fun e w' => e = .returned (.int .i64 (idx S t)) ∧ Fr No w w' := by
  obtain ⟨off, cap, h0, h1, h2, h3, h4, h5, h6⟩ := h.cells
  have hn := hok.ne
  have hl := hok.len
  have ha := hok.asc
  have hlow := low_le S t
  have Hh : Hid (idx S t = if hits S t then low S t else low S t - 1) := rfl
  clear h hok
  cases hb : hits S t
  all_goals
    have Hb := Lib.hid hb
    clear hb
    go_enter Tryz.func213, Tryz.ntmps213
    go_wp2_with fail
    refine (bsearch g off cap S t _ h3 ha h5 hl).mono ?_
    rintro e w1 ⟨rfl, hf1⟩
    clear h3 ha
    rw [Hb.out]
  · by_cases hk : 0 < low S t
    · go_wp2_with fail
      go_ret
      exact ⟨ret_int (by rw [Hh.out, Hb.out]; simp; omega), hf1⟩
    · have h0' : low S t = 0 := by omega
      rw [h0']
      go_wp2_with fail
      go_ret
      exact ⟨ret_int (by rw [Hh.out, Hb.out]; simp; omega), hf1⟩
  · go_wp2_with fail
    go_ret
    exact ⟨ret_int (by rw [Hh.out, Hb.out]; simp), hf1⟩

theorem pfree (p g : Nat) (S : List Step) (ver t : Int) (w : World) (h : ProfAt w p g S ver) (hok : POk S) :
    Calls Tryz.prog 196 #[.pointer (some ⟨p, 0, none⟩), .int .i64 t] w fun e w' => e = .returned (.int .i64 (freeAt S t)) ∧ Fr No w w' := by
  obtain ⟨off, cap, h0, h1, h2, h3, h4, h5, h6⟩ := h.cells
  have hn := hok.ne
  have hl := hok.len
  have hlt := idx_lt hn t
  obtain ⟨s, hs⟩ : ∃ s, S[idx S t]? = some s := ⟨_, List.getElem?_eq_getElem hlt⟩
  have hv : freeAt S t = s.free := by unfold freeAt; rw [List.getD_eq_getElem?_getD, hs]; rfl
  rw [hv]; clear hv
  obtain ⟨c0, c1⟩ := h3 _ _ hs
  have H := Lib.hid h
  have Hok := Lib.hid hok
  clear h hok hs h3
  go_enter Tryz.func196, Tryz.ntmps196
  go_wp2_with fail
  refine (pnone_c _ _ _ _ _ h0 hn hl).mono ?_
  rintro e w1 ⟨rfl, rfl⟩
  go_wp2_with fail
  go_region_held3 (fun w' => w'.cell? ⟨p, 0, none⟩ = some (.slice (some ⟨g, off, none⟩) S.length cap) ∧ w'.cell? ⟨g, off + idx S t * 2 + 1, none⟩ = some (.int .i64 s.free)) (go_keep)
    (first | (go_at_call 213; refine (pindex p g S ver t _ (H.out.fr (F := No) ?_ id id) Hok.out).mono ?_; (exact (Fr.refl _ _).drew); rintro e w' ⟨rfl, hf⟩; have k0 := (hf.cell (p := ⟨p, 0, none⟩) h4 id).trans h0; have k1 := (hf.cell (p := ⟨g, off + idx S t * 2 + 1, none⟩) h5 id).trans c1))
  go_wp2
  go_ret
  exact ⟨rfl, ((Fr.refl _ _).drew).then hf⟩

theorem pleast (p g : Nat) (S : List Step) (ver fr to : Int) (w : World) (h : ProfAt w p g S ver) (hok : POk S) :
    Calls Tryz.prog 178 #[.pointer (some ⟨p, 0, none⟩), .int .i64 fr, .int .i64 to] w fun e w' => e = .returned (.int .i64 (least S fr to)) ∧ Fr No w w' := by
  obtain ⟨off, cap, h0, h1, h2, h3, h4, h5, h6⟩ := h.cells
  have hn := hok.ne
  have hl := hok.len
  obtain ⟨s0, hs0⟩ : ∃ s, S[0]? = some s := ⟨_, List.getElem?_eq_getElem hn⟩
  have hnow := nowOf_eq hs0
  have Hl : Hid (least S fr to = if to ≤ max fr (nowOf S) then 64 else lst to (S.drop (idx S (max fr (nowOf S)))) 64) := rfl
  rw [hnow] at Hl
  have hlt := idx_lt hn (max fr s0.at_)
  obtain ⟨m, hm⟩ : ∃ m, m = max fr s0.at_ := ⟨_, rfl⟩
  rw [← hm] at Hl hlt
  have H := Lib.hid h
  have Hok := Lib.hid hok
  have Hs0 := Lib.hid hs0
  have H3 := Lib.hid h3
  clear h hok hs0 h3 hnow
  have hfr : fr < s0.at_ ∨ s0.at_ ≤ fr := by omega
  by_cases hto : to ≤ m
  · rcases hfr with hfr | hfr
    · obtain rfl : m = s0.at_ := by omega
      clear hm
      go_enter Tryz.func178, Tryz.ntmps178
      go_wp2_with fail
      refine (pnone_c _ _ _ _ _ h0 hn hl).mono ?_
      rintro e w1 ⟨rfl, rfl⟩
      go_wp2_with fail
      refine (pnow p g S ver _ H.out Hok.out s0 Hs0.out).mono ?_
      rintro e w1 ⟨rfl, rfl⟩
      go_wp2_with fail
      go_ret
      exact ⟨ret_int (by rw [Hl.out, if_pos hto]), Fr.refl _ _⟩
    · obtain rfl : m = fr := by omega
      clear hm
      go_enter Tryz.func178, Tryz.ntmps178
      go_wp2_with fail
      refine (pnone_c _ _ _ _ _ h0 hn hl).mono ?_
      rintro e w1 ⟨rfl, rfl⟩
      go_wp2_with fail
      refine (pnow p g S ver _ H.out Hok.out s0 Hs0.out).mono ?_
      rintro e w1 ⟨rfl, rfl⟩
      go_wp2_with fail
      go_ret
      exact ⟨ret_int (by rw [Hl.out, if_pos hto]), Fr.refl _ _⟩
  · have hto' : m < to := by omega
    have Hl2 := Lib.hid (Hl.out.trans (if_neg hto))
    clear hto Hl
    have hc : idx S m < cap := by omega
    obtain ⟨k, hk⟩ : ∃ k, k = idx S m := ⟨_, rfl⟩
    rw [← hk] at Hl2 hc hlt
    have hi0 : (0 : Int) ≤ (k : Int) := by omega
    have hi1 : (k : Int) ≤ (S.length : Int) := by omega
    rcases hfr with hfr | hfr
    case' inl => obtain rfl : m = s0.at_ := by omega
    case' inr => obtain rfl : m = fr := by omega
    all_goals
      have Hk := Lib.hid hk
      clear hk hm
      go_enter Tryz.func178, Tryz.ntmps178
      go_wp2_with fail
      refine (pnone_c _ _ _ _ _ h0 hn hl).mono ?_
      rintro e w1 ⟨rfl, rfl⟩
      go_wp2_with fail
      refine (pnow p g S ver _ H.out Hok.out s0 Hs0.out).mono ?_
      rintro e w1 ⟨rfl, rfl⟩
      go_wp2_with fail
      go_region_held3 (fun w' => w'.cell? ⟨p, 0, none⟩ = some (.slice (some ⟨g, off, none⟩) S.length cap)) (go_keep)
        (first | (go_at_call 213; refine (pindex p g S ver _ _ (H.out.fr (F := No) ?_ id id) Hok.out).mono ?_; (exact (Fr.refl _ _).drew); rintro e w' ⟨rfl, hf⟩; rw [← Hk.out]; have k0 := (hf.cell (p := ⟨p, 0, none⟩) h4 id).trans h0))
      rename_i w2
      have hf := ((Fr.refl No w).drew).then hf
      clear k0
      go_wp2_with fail
      go_loopw [7, 29] (fun n i wr => ∃ (a : Nat) (x : Int), i = .int .i64 a ∧ n = .int .i64 x ∧ a ≤ S.length - k ∧ Fr No w wr ∧ lst to (S.drop k) 64 = lst to (S.drop (k + a)) x)
        (fun _ i _ => (S.length - k) - (intOf i).toNat)
      case atStart => exact ⟨0, 64, rfl, rfl, by omega, hf, rfl⟩
      case round =>
        obtain ⟨a, x, rfl, rfl, ha, hfr', hx⟩ := hrel
        have Hx := Lib.hid hx
        clear hx
        by_cases hlt' : a < S.length - k
        · obtain ⟨s, hs⟩ : ∃ s, S[k + a]? = some s := ⟨_, List.getElem?_eq_getElem (by omega)⟩
          obtain ⟨c0, c1⟩ := H3.out.fr hfr' h5 id _ _ hs
          rw [show off + (k + a) * 2 = off + k * 2 + a * 2 from by omega] at c0 c1
          have hgr : g < wr.heap.size := Nat.lt_of_lt_of_le h5 hfr'.size
          have Hs := Lib.hid hs
          clear hs
          by_cases h : to ≤ s.at_
          · go_wp2_with fail
            go_ret
            exact ⟨ret_int (by rw [Hl2.out, Hx.out, lst_stop Hs.out h]), hfr'.alloc _⟩
          · by_cases hmin : s.free < x
            · go_wp2_with fail
              go_roundw
              case rel => exact ⟨a + 1, s.free, by go_num, rfl, by omega, hfr'.alloc _, by rw [Hx.out, lst_go Hs.out h, Int.min_eq_right (by omega)]; rfl⟩
              case measure => simp [intOf]; omega
            · go_wp2_with fail
              go_roundw
              case rel => exact ⟨a + 1, x, by go_num, rfl, by omega, hfr'.alloc _, by rw [Hx.out, lst_go Hs.out h, Int.min_eq_left (by omega)]; rfl⟩
              case measure => simp [intOf]; omega
        · go_wp2_with fail
          go_ret
          exact ⟨ret_int (by rw [Hl2.out, Hx.out, List.drop_of_length_le (by omega)]; rfl), hfr'⟩
end Go.Proofs.YtbbbodfikgdhcaaGreatDoor
