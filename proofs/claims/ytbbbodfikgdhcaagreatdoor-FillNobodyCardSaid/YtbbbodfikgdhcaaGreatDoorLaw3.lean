/- Law 18's last: a nil pass is over. -/
import Derived.Test.YtbbbodfikgdhcaaGreatDoorFill10
namespace Go.Proofs.YtbbbodfikgdhcaaGreatDoor
open Go Go.RowKit

set_option maxHeartbeats 1000000 in
set_option maxRecDepth 100000 in
theorem fillNobody18 (who : Int) (w : World) : Calls Tryz.prog 4 #[.int .i64 who] w fun e w' => e = .returned (.bool true) ∧ Fr No w w' := by
  have heq0 : ∀ u, (Op.equalIn 10000 44 (.agg #[.int .i64 0, .int .i64 0]) (.agg #[.int .i64 0, .int .i64 0])).run Tryz.prog u = .ok true u := fun _ => by kernel_rfl
  have hw : who < 1 ∨ 1 ≤ who := by omega
  have Hw := Lib.hid hw
  clear hw
  go_enter Tryz.func4, Tryz.ntmps4
  go_wp2_with fail
  refine (flstep_nil _ _ _).mono ?_
  rintro e w1 ⟨rfl, hf1⟩
  have hF1 := Lib.hid (((Fr.refl No w).alloc (.cells #[.int .i64 0, .int .i64 0, .int .i64 0, .int .i64 0] 29)).then hf1)
  clear hf1
  have hB := Lib.hid (Blk.new w1 44 #[.int .i64 0, .int .i64 0])
  have hF2 := Lib.hid (hF1.out.alloc (.cells #[.int .i64 0, .int .i64 0] 44))
  go_wp2_with fail
  rcases Hw.out with hw | hw
  · refine (flNew_no who hw _).mono ?_
    rintro e w3 ⟨rfl, hf3⟩
    obtain ⟨q1, q2, q3⟩ := ownNo hB.out hf3
    have hF3 := Lib.hid (hF2.out.then hf3)
    clear hf3
    go_wp2_with fail
    refine (flstage_nil _).mono ?_
    rintro e w4 ⟨rfl, rfl⟩
    go_wp2_with fail
    refine (fltaken_nil _).mono ?_
    rintro e w4 ⟨rfl, rfl⟩
    go_wp2_with fail
    refine (flstale_nil _).mono ?_
    rintro e w4 ⟨rfl, rfl⟩
    go_wp2_with fail
    refine (flwaits_nil _ _).mono ?_
    rintro e w4 ⟨rfl, rfl⟩
    go_wp2_with fail
    refine (items_nil _).mono ?_
    rintro e w4 ⟨rfl, rfl⟩
    go_wp2_with fail
    refine (awake18 _).mono ?_
    rintro e w5 ⟨rfl, hf5⟩
    go_wp2_with fail
    go_ret
    refine ⟨?_, hF3.out.then hf5⟩
    first
    | rfl
    | (show Ending.returned (.bool (!decide (1 ≤ who))) = .returned (.bool true)
       rw [decide_eq_false (by omega)]
       rfl)
  · refine (flNew who 1 1 hw (by decide) (by decide) (by decide) (by decide) _).mono ?_
    rintro e w3 ⟨b, rfl, _, _, hf3⟩
    obtain ⟨q1, q2, q3⟩ := ownNo hB.out hf3
    have hF3 := Lib.hid (hF2.out.then hf3)
    clear hf3
    go_wp2_with fail
    refine (flstage_nil _).mono ?_
    rintro e w4 ⟨rfl, rfl⟩
    go_wp2_with fail
    refine (fltaken_nil _).mono ?_
    rintro e w4 ⟨rfl, rfl⟩
    go_wp2_with fail
    refine (flstale_nil _).mono ?_
    rintro e w4 ⟨rfl, rfl⟩
    go_wp2_with fail
    refine (flwaits_nil _ _).mono ?_
    rintro e w4 ⟨rfl, rfl⟩
    go_wp2_with fail
    refine (items_nil _).mono ?_
    rintro e w4 ⟨rfl, rfl⟩
    go_wp2_with fail
    refine (awake18 _).mono ?_
    rintro e w5 ⟨rfl, hf5⟩
    go_wp2_with fail
    go_ret
    refine ⟨?_, hF3.out.then hf5⟩
    first
    | rfl
    | (show Ending.returned (.bool (!decide (1 ≤ who))) = .returned (.bool true)
       rw [decide_eq_false (by omega)]
       rfl)
end Go.Proofs.YtbbbodfikgdhcaaGreatDoor
