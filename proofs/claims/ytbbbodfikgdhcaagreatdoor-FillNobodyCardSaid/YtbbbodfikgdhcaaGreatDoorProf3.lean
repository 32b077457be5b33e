/- Contracts of the profile's copies: its steps, and a copy of its own. -/
import Derived.Test.YtbbbodfikgdhcaaGreatDoorJobs2
namespace Go.Proofs.YtbbbodfikgdhcaaGreatDoor
open Go Go.RowKit

def Step.cs (s : Step) : List Value := [.int .i64 s.at_, .int .i64 s.free]
def rowsS (l : List Step) : List Value := l.flatMap Step.cs
theorem rowsS_len (l : List Step) : (rowsS l).length = l.length * 2 := by
  induction l with
  | nil => rfl
  | cons j l ih =>
    have e : rowsS (j :: l) = j.cs ++ rowsS l := by simp [rowsS]
    rw [e, List.length_append, ih, List.length_cons]
    simp [Step.cs]; omega
theorem rowsS_one (l : List Step) : ∀ u ∈ rowsS l, u.oneCell' = true := by
  intro u hu
  obtain ⟨j, _, hj⟩ := List.mem_flatMap.1 hu
  simp [Step.cs] at hj
  rcases hj with h | h <;> subst h <;> rfl
theorem rowsS_at {l : List Step} {a : Nat} {j : Step} (h : l[a]? = some j) (k : Nat) (hk : k < 2) : (rowsS l)[a * 2 + k]? = j.cs[k]? := by
  induction l generalizing a with
  | nil => simp at h
  | cons x l ih =>
    have e : rowsS (x :: l) = x.cs ++ rowsS l := by simp [rowsS]
    have hl : x.cs.length = 2 := rfl
    rw [e]
    cases a with
    | zero =>
      simp at h; subst h
      rw [List.getElem?_append_left (by rw [hl]; omega)]
      simp
    | succ a =>
      rw [List.getElem?_append_right (by rw [hl]; omega), hl]
      rw [show (a + 1) * 2 + k - 2 = a * 2 + k from by omega]
      exact ih (by simpa using h)
theorem rowsS_append (a b : List Step) : rowsS (a ++ b) = rowsS a ++ rowsS b := by simp [rowsS]

/-- What lies as steps is a row of cells. -/
theorem StepsAt.row {w : World} {g off : Nat} {S : List Step} (h : StepsAt w g off S) : ∀ j u, (rowsS S)[j]? = some u → w.cell? ((⟨g, off, none⟩ : Addr).add j) = some u := by
  intro j u hu
  have hj := (List.getElem?_eq_some_iff.1 hu).1
  rw [rowsS_len] at hj
  have ha : j / 2 < S.length := by omega
  obtain ⟨s, hs⟩ : ∃ s, S[j / 2]? = some s := ⟨_, List.getElem?_eq_getElem ha⟩
  obtain ⟨c0, c1⟩ := h (j / 2) s hs
  have h2 : j % 2 = 0 ∨ j % 2 = 1 := by omega
  rw [Addr.add_lit]
  rcases h2 with h2 | h2
  · have e : j = j / 2 * 2 + 0 := by omega
    rw [e, rowsS_at hs 0 (by omega)] at hu
    rw [show off + j = off + j / 2 * 2 from by omega, c0]
    exact hu
  · have e : j = j / 2 * 2 + 1 := by omega
    rw [e, rowsS_at hs 1 (by omega)] at hu
    rw [show off + j = off + j / 2 * 2 + 1 from by omega, c1]
    exact hu
theorem steps_of_row {w : World} {base g n cap : Nat} {S : List Step} (h : w.ownsRow base 167 2 (.slice (some ⟨g, 0, none⟩) n cap) n (rowsS S)) : StepsAt w g 0 S := by
  intro i s hs
  have hl := h.1
  rw [rowsS_len] at hl
  have hi := (List.getElem?_eq_some_iff.1 hs).1
  have c0 := h.cellAt (i * 2) (by omega)
  have c1 := h.cellAt (i * 2 + 1) (by omega)
  rw [show i * 2 = i * 2 + 0 from rfl, rowsS_at hs 0 (by omega)] at c0
  rw [rowsS_at hs 1 (by omega)] at c1
  rw [Nat.zero_add]
  exact ⟨c0, c1⟩
/-- An owned row of steps, and a block that points to it: a profile. -/
theorem prof_of_row {w : World} {base p g cap : Nat} {S : List Step} {ver : Int} (h : w.ownsRow base 167 2 (.slice (some ⟨g, 0, none⟩) S.length cap) S.length (rowsS S)) (hp : Blk w p 169 #[.slice (some ⟨g, 0, none⟩) S.length cap, .int .i64 ver]) : ProfAt w p g S ver := by
  have hs := steps_of_row h
  rcases h.2 with ⟨h1, _⟩ | ⟨g', cap', cur, h1, h2, h3, h4, h5, h6, h7⟩
  · cases h1
  · simp only [Value.slice.injEq, Option.some.injEq, Addr.mk.injEq, true_and, and_true] at h1
    obtain ⟨rfl, rfl⟩ := h1
    exact ⟨0, cap, cur, hp, h3, h4, by rw [h6]; omega, hs, by have := h5; unfold maxLen at this; omega⟩

theorem cloneStepAt (g off cap : Nat) (S : List Step) (w : World) (h : StepsAt w g off S) (hg : g < w.heap.size) (hn : S.length ≤ 1048576) :
    Calls Tryz.prog 99 #[.slice (some ⟨g, off, none⟩) S.length cap] w fun e w' => ∃ v', e = .returned v' ∧ w'.ownsRow w.heap.size 167 2 v' S.length (rowsS S) ∧ Fr No w w' := by
  obtain ⟨i, hi, hz, hs, hb⟩ := info_parts infoStep
  have hc : ∀ j u, (rowsS S)[j]? = some u → (w.alloc (.cells #[] 167)).cell? ((⟨g, off, none⟩ : Addr).add j) = some u := fun j u e => by
    rw [← h.row j u e]
    refine Fr.cell (F := No) ((Fr.refl No w).alloc _) ?_ (fun x => x)
    rw [Addr.add_lit]
    exact hg
  have Hc := Lib.hid hc
  have Hi := Lib.hid hi
  have Hz := Lib.hid hz
  have Hs := Lib.hid hs
  have Hb := Lib.hid hb
  have Hn := Lib.hid hn
  clear h hc hi hz hs hb hn
  have heq := fun u => Lib.run_eql_slice_nil u 92 _ (some ⟨g, off, none⟩) S.length cap 0 0 Tryz.underlying92
  go_enter Tryz.func99, Tryz.ntmps99
  go_wp2_with (first
    | (at_builtin; refine wpList_append_own _ rfl _ _ 92 rfl w.heap.size 167 i _ 2 16 Tryz.underlying92 Hi.out Hz.out Hs.out Hb.out rfl (by decide) _ 0 [] rfl (World.ownsRow_made w #[] 0 (Nat.le_refl _) (by decide) rfl) ⟨g, off, none⟩ S.length cap (rowsS S) rfl (rowsS_len S) Hc.out (rowsS_one S) (by have := Hn.out; unfold maxLen; omega) (by have := Hn.out; omega) (by simp) ?_
       intro v' w1 hown hgrow hnil))
  go_ret
  refine ⟨_, rfl, by simpa using hown, ?_⟩
  exact (Fr.refl No w).alloc _ |>.trans (Fr.grown hgrow (F := fun k => w.heap.size ≤ k) (fun k e => by have : w.heap.size = k := Option.some.inj e; omega)) (fun _ x => x) (fun k hk hx => by omega)

theorem psteps (p g : Nat) (S : List Step) (ver : Int) (w : World) (h : ProfAt w p g S ver) (hok : POk S) :
    Calls Tryz.prog 43 #[.pointer (some ⟨p, 0, none⟩)] w fun e w' => ∃ g' cap, e = .returned (.slice (some ⟨g', 0, none⟩) S.length cap) ∧ w'.ownsRow w.heap.size 167 2 (.slice (some ⟨g', 0, none⟩) S.length cap) S.length (rowsS S) ∧ Fr No w w' := by
  obtain ⟨off, cap, h0, h1, h2, h3, h4, h5, h6⟩ := h.cells
  have hn := hok.ne
  have hl := hok.len
  have H3 := Lib.hid h3
  clear h hok h3
  go_enter Tryz.func43, Tryz.ntmps43
  go_wp2_with fail
  refine (pnone_c _ _ _ _ _ h0 hn hl).mono ?_
  rintro e w1 ⟨rfl, rfl⟩
  go_wp2_with fail
  refine (cloneStepAt g off cap S _ H3.out h5 hl).mono ?_
  rintro e w1 ⟨v', rfl, ho, hf⟩
  rcases own_form ho with ⟨_, h0⟩ | ⟨g', cap', rfl, _, _⟩
  · omega
  have Ho := Lib.hid ho
  clear ho
  go_wp2_with fail
  go_ret
  exact ⟨g', cap', rfl, Ho.out, hf⟩

theorem pcopy (p g : Nat) (S : List Step) (ver : Int) (w : World) (h : ProfAt w p g S ver) (hok : POk S) :
    Calls Tryz.prog 134 #[.pointer (some ⟨p, 0, none⟩)] w fun e w' => ∃ p' g', e = .returned (.pointer (some ⟨p', 0, none⟩)) ∧ ProfAt w' p' g' S ver ∧ w.heap.size ≤ p' ∧ w.heap.size ≤ g' ∧ Fr No w w' := by
  obtain ⟨off, cap, h0, h1, h2, h3, h4, h5, h6⟩ := h.cells
  have hn := hok.ne
  have hl := hok.len
  have H := Lib.hid h
  have Hok := Lib.hid hok
  clear h hok h3
  go_enter Tryz.func134, Tryz.ntmps134
  go_wp2_with fail
  refine (pnone_c _ _ _ _ _ h0 hn hl).mono ?_
  rintro e w1 ⟨rfl, rfl⟩
  go_wp2_with fail
  go_region_held3 (fun w' => w'.cell? ⟨p, 1, none⟩ = some (.int .i64 ver)) (go_keep)
    (first | (go_at_call 43; refine (psteps p g S ver _ (H.out.fr (F := No) ((Fr.refl _ _).drew) id id) Hok.out).mono ?_; rintro e w1 ⟨g', cap', rfl, ho, hf⟩; have k0 := (hf.cell (p := ⟨p, 1, none⟩) h4 id).trans h1))
  have hbox := Blk.new w1 169 #[.slice (some ⟨g', 0, none⟩) S.length cap', .int .i64 ver]
  have hz := hf.size
  have hlt := ho.lt g' rfl
  go_wp2_with fail
  go_ret
  refine ⟨w1.heap.size, g', rfl, prof_of_row (ho.alloc _) hbox, by simpa using hz, hlt.1, ?_⟩
  exact (((Fr.refl No w).drew).then hf).alloc _
end Go.Proofs.YtbbbodfikgdhcaaGreatDoor
