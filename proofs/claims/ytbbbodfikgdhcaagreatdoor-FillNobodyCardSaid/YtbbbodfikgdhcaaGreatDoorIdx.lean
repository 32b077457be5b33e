/- Whether a number is among others. -/
import Derived.Test.YtbbbodfikgdhcaaGreatDoorClone
namespace Go.Proofs.YtbbbodfikgdhcaaGreatDoor
open Go Go.RowKit

theorem indexInt (g cap : Nat) (zs : List Int) (x : Int) (w : World) (hl : zs.length ≤ 1024) (hcap : zs.length ≤ cap) (h : ∀ i z, zs[i]? = some z → w.cell? ⟨g, i, none⟩ = some (.int .i64 z)) :
    Calls Tryz.prog 212 #[.slice (some ⟨g, 0, none⟩) zs.length cap, .int .i64 x] w fun e w' => ∃ r : Int, e = .returned (.int .i64 r) ∧ (decide (0 ≤ r)) = zs.contains x ∧ w = w' := by
  have H := Lib.hid h
  clear h
  go_enter Tryz.func212, Tryz.ntmps212
  go_wp2_with fail
  go_loopw [5, 8] (fun _ i wr => ∃ a : Nat, i = .int .i64 a ∧ a ≤ zs.length ∧ wr = w ∧ ∀ j z, j < a → zs[j]? = some z → z ≠ x) (fun _ i _ => zs.length - (intOf i).toNat)
  case atStart => exact ⟨0, rfl, by omega, rfl, by intro j z hj; omega⟩
  case round =>
    obtain ⟨a, rfl, ha, rfl, hno⟩ := hrel
    have Hno := Lib.hid hno
    clear hno
    by_cases hlt : a < zs.length
    · obtain ⟨z, hz⟩ : ∃ z, zs[a]? = some z := ⟨_, List.getElem?_eq_getElem hlt⟩
      have c0 := H.out a z hz
      have Hz := Lib.hid hz
      clear hz
      by_cases hx : x = z
      · subst hx
        go_wp2_with fail
        go_ret
        refine ⟨_, rfl, ?_, rfl⟩
        have hm : x ∈ zs := List.mem_of_getElem? Hz.out
        simp [hm]
      · go_wp2_with fail
        go_roundw
        case rel =>
          refine ⟨a + 1, by go_num, by omega, by trivial, ?_⟩
          intro j y hj hy
          rcases Nat.lt_or_ge j a with hja | hja
          · exact Hno.out j y hja hy
          · obtain rfl : j = a := by omega
            rw [Hz.out] at hy
            obtain rfl := Option.some.inj hy
            exact fun e => hx e.symm
        case measure => simp [intOf]; omega
    · go_wp2_with fail
      go_ret
      refine ⟨_, rfl, ?_, rfl⟩
      have hm : x ∉ zs := by
        intro hm
        obtain ⟨j, hj⟩ := List.getElem?_of_mem hm
        have := (List.getElem?_eq_some_iff.1 hj).1
        exact Hno.out j x (by omega) hj rfl
      simp [hm]

theorem containsInt (g cap : Nat) (zs : List Int) (x : Int) (w : World) (hl : zs.length ≤ 1024) (hcap : zs.length ≤ cap) (h : ∀ i z, zs[i]? = some z → w.cell? ⟨g, i, none⟩ = some (.int .i64 z)) :
    Calls Tryz.prog 171 #[.slice (some ⟨g, 0, none⟩) zs.length cap, .int .i64 x] w fun e w' => e = .returned (.bool (zs.contains x)) ∧ w = w' := by
  have H := Lib.hid h
  clear h
  go_enter Tryz.func171, Tryz.ntmps171
  go_wp2_with fail
  refine (indexInt g cap zs x _ hl hcap H.out).mono ?_
  rintro e w1 ⟨r, rfl, hr, rfl⟩
  have Hr := Lib.hid hr
  clear hr
  go_wp2_with fail
  go_ret
  exact ⟨ret_bool (by rw [← Hr.out]), rfl⟩
end Go.Proofs.YtbbbodfikgdhcaaGreatDoor
