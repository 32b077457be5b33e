/- Contracts of the profile's search: BinarySearchFunc at steps, index. -/
import Derived.Test.YtbbbodfikgdhcaaGreatDoorProg
import Derived.Test.YtbbbodfikgdhcaaGreatDoorBase
import Derived.Test.YtbbbodfikgdhcaaGreatDoorSpec
import Derived.Deep.QuietTactic
import Derived.BigQuiet
namespace Go.Proofs.YtbbbodfikgdhcaaGreatDoor
open Go Go.RowKit

/-- The cells from `off` on of block `g` hold the steps. -/
def StepsAt (w : World) (g off : Nat) (S : List Step) : Prop :=
  ∀ i s, S[i]? = some s → w.cell? ⟨g, off + i * 2, none⟩ = some (.int .i64 s.at_) ∧ w.cell? ⟨g, off + i * 2 + 1, none⟩ = some (.int .i64 s.free)

theorem StepsAt.fr {F : Nat → Prop} {w w' : World} {g off : Nat} {S : List Step} (h : StepsAt w g off S) (hf : Fr F w w') (hg : g < w.heap.size) (hn : ¬ F g) : StepsAt w' g off S :=
  fun i s hs => by rw [hf.cell hg hn, hf.cell hg hn]; exact h i s hs

/-- index$1 -/
def cmpAt (s : Step) (t : Int) : Int := if s.at_ < t then -1 else if t < s.at_ then 1 else 0
theorem cmp_any (a f t : Int) (w : World) :
    Calls Tryz.prog 234 #[.agg #[.int .i64 a, .int .i64 f], .int .i64 t] w fun e w' => e = .returned (.int .i64 (cmpAt ⟨a, f⟩ t)) ∧ Fr No w w' := by
  unfold cmpAt
  rcases Int.lt_trichotomy a t with h | h | h
  · rw [if_pos h]
    go_enter Tryz.func234, Tryz.ntmps234
    go_wp2
    go_ret
    exact ⟨rfl, (Fr.refl _ _).alloc _⟩
  · subst h
    rw [if_neg (by simp), if_neg (by simp)]
    go_enter Tryz.func234, Tryz.ntmps234
    go_wp2
    go_ret
    exact ⟨rfl, (Fr.refl _ _).alloc _⟩
  · rw [if_neg (by simp; omega), if_pos h]
    have h2 : decide (a < t) = false := by simp; omega
    go_enter Tryz.func234, Tryz.ntmps234
    go_wp2
    go_ret
    exact ⟨rfl, (Fr.refl _ _).alloc _⟩


theorem bsearch (g off c : Nat) (S : List Step) (t : Int) (w : World) (hS : StepsAt w g off S) (hA : Asc S) (hg : g < w.heap.size) (hn : S.length ≤ 1048576) :
    Calls Tryz.prog 233 #[.slice (some ⟨g, off, none⟩) S.length c, .int .i64 t, .func (.func 234) #[] #[]] w fun e w' =>
      e = .returned (.tuple #[.int .i64 (low S t), .bool (hits S t)]) ∧ Fr No w w' := by
  go_enter Tryz.func233, Tryz.ntmps233
  go_wp2_with fail
  go_loopw [9, 10] (fun i j wr => ∃ a b : Nat, i = .int .i64 a ∧ j = .int .i64 b ∧ a ≤ b ∧ b ≤ S.length ∧ Fr No w wr ∧ (∀ k s, S[k]? = some s → k < a → s.at_ < t) ∧ (∀ k s, S[k]? = some s → b ≤ k → t ≤ s.at_))
    (fun i j _ => (intOf j - intOf i).toNat)
  case atStart => exact ⟨0, S.length, rfl, rfl, by omega, by omega, Fr.refl _ _, by intros; omega, by intro k s hk; have := (List.getElem?_eq_some_iff.1 hk).1; omega⟩
  case round =>
    obtain ⟨a, b, rfl, rfl, hab, hb, hf, hlo, hhi⟩ := hrel
    have Hlo := Lib.hid hlo
    have Hhi := Lib.hid hhi
    clear hlo hhi
    by_cases hlt : a < b
    · obtain ⟨s, hs⟩ : ∃ s, S[(a + b) / 2]? = some s := ⟨_, List.getElem?_eq_getElem (by omega)⟩
      obtain ⟨c0, c1⟩ := hS.fr hf hg id _ _ hs
      have hm : (a + b) / 2 < S.length := by omega
      have Hs := Lib.hid hs
      clear hs
      have hgr : g < wr.heap.size := Nat.lt_of_lt_of_le hg hf.size
      by_cases h : s.at_ < t
      · go_wp2_with fail
        refine (cmp_any _ _ _ _).mono ?_
        rintro e w1 ⟨rfl, hf1⟩
        have e1 : cmpAt ⟨s.at_, s.free⟩ t = -1 := if_pos h
        rw [e1]; clear e1
        go_wp2_with fail
        go_roundw
        case rel => exact ⟨(a + b) / 2 + 1, b, by go_num, rfl, by omega, hb, hf.then hf1, fun k s' hk hlt' => by
            by_cases e : k = (a + b) / 2
            · subst e; rw [Hs.out] at hk; cases hk; exact h
            · have := hA k ((a + b) / 2) s' s (by omega) hk Hs.out; omega, Hhi.out⟩
        case measure => simp [intOf]; omega
      · go_wp2_with fail
        refine (cmp_any _ _ _ _).mono ?_
        rintro e w1 ⟨rfl, hf1⟩
        have e1 : decide (cmpAt ⟨s.at_, s.free⟩ t < 0) = false := by unfold cmpAt; rw [if_neg (by show ¬ s.at_ < t; omega)]; split <;> simp
        go_wp2_with fail
        go_roundw
        case rel => exact ⟨a, (a + b) / 2, rfl, by go_num, by omega, by omega, hf.then hf1, Hlo.out, fun k s' hk hge => by
            by_cases e : k = (a + b) / 2
            · subst e; rw [Hs.out] at hk; cases hk; omega
            · have := hA ((a + b) / 2) k s s' (by omega) Hs.out hk; omega⟩
        case measure => simp [intOf]; omega
    · have hab' : a = b := by omega
      subst hab'
      have hlow : low S t = a := low_eq (by omega) Hlo.out Hhi.out
      have Hlow := Lib.hid hlow
      clear hlow
      by_cases hlt2 : a < S.length
      · obtain ⟨s, hs⟩ : ∃ s, S[a]? = some s := ⟨_, List.getElem?_eq_getElem hlt2⟩
        obtain ⟨c0, c1⟩ := hS.fr hf hg id _ _ hs
        have hgr : g < wr.heap.size := Nat.lt_of_lt_of_le hg hf.size
        have hh : (cmpAt ⟨s.at_, s.free⟩ t == 0) = hits S t := by
          unfold hits; rw [Hlow.out, hs]; simp only [cmpAt]
          have := Hhi.out a s hs (Nat.le_refl _)
          rw [if_neg (by omega)]; split <;> simp <;> omega
        have Hh := Lib.hid hh
        have Hs := Lib.hid hs
        clear hs hh
        go_wp2_with fail
        refine (cmp_any _ _ _ _).mono ?_
        rintro e w1 ⟨rfl, hf1⟩
        go_wp2_with fail
        go_ret2
        exact ⟨by rw [Hlow.out, ← Hh.out]; rfl, hf.then hf1⟩
      · have hh : hits S t = false := by
          unfold hits; rw [Hlow.out, List.getElem?_eq_none (by omega)]
        have Hh := Lib.hid hh
        clear hh
        go_wp2_with fail
        go_ret2
        exact ⟨by rw [Hlow.out, Hh.out]; rfl, hf⟩

end Go.Proofs.YtbbbodfikgdhcaaGreatDoor
