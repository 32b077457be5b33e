/-
  DERIVED. GIVEN WITH THE SEED: THE CARDS: each row of YtbbbodfikgdhcaaGreatDoorRows.lean that lists a variable, with what it lists TIED to the program's text (the seventh form; the later family's looks); each row that meets fmt, with fmt's text TOLD by the authors' own Lean function (tested against real Go, not proved from fmt's source: count such statements apart). THE CARD IS WHAT COUNTS. Prove the row's statement (the work); the ties are given (YtbbbodfikgdhcaaGreatDoorTie.lean); close each card by the builder's one call (the guide's Derived/Test/ToyasCard.lean, 'card_holds'). Laid BY PROGRAM, IN A SANDBOX (cutbox-door.mjs). By AI agents, Wed Nov 11 2026. No macro, syntax, notation, axiom, sorry.
-/
import Derived.Test.YtbbbodfikgdhcaaGreatDoorRows
import GoSem.ClaimSeven
namespace Go.Proofs.YtbbbodfikgdhcaaGreatDoor
namespace Rows

/-- THE TIED CARD OF 'berthagelaw17.OpNobody'. -/
def opNobodyCard : Claim7 := { stood := { row := opNobodyRow, standIns := [], harness := (true, "7b9ec7e5fac3e90d9c04e31fbadae6eb9988fba6cd3308fca5795180fc9325f6"), looks := false }, kinds := [], alts := [], laidByText := true, laidKinds := [.data], laidTests := true, laidLooks := .later }
def OpNobodyCardSaid : Prop := Claim7.holds Tryz.pinned (.plain (OpenSpec.ofChange opNobodySpec)) opNobodyCard

/-- THE TIED CARD OF 'berthagelaw18.FillNobody'. -/
def fillNobodyCard : Claim7 := { stood := { row := fillNobodyRow, standIns := [], harness := (true, "7b9ec7e5fac3e90d9c04e31fbadae6eb9988fba6cd3308fca5795180fc9325f6"), looks := false }, kinds := [], alts := [], laidByText := true, laidKinds := [.data], laidTests := true, laidLooks := .later }
def FillNobodyCardSaid : Prop := Claim7.holds Tryz.pinned (.plain (OpenSpec.ofChange fillNobodySpec)) fillNobodyCard

/-- THE TIED CARD OF 'berthagelaw40.SnapNobody'. -/
def snapNobodyCard : Claim7 := { stood := { row := snapNobodyRow, standIns := [], harness := (true, "7b9ec7e5fac3e90d9c04e31fbadae6eb9988fba6cd3308fca5795180fc9325f6"), looks := false }, kinds := [], alts := [], laidByText := true, laidKinds := [.data], laidTests := true, laidLooks := .later }
def SnapNobodyCardSaid : Prop := Claim7.holds Tryz.pinned (.plain (OpenSpec.ofChange snapNobodySpec)) snapNobodyCard

/-- THE TIED CARD OF 'berthagelaw15.PassLowers'. -/
def passLowersCard : Claim7 := { stood := { row := passLowersRow, standIns := [], harness := (true, "7b9ec7e5fac3e90d9c04e31fbadae6eb9988fba6cd3308fca5795180fc9325f6"), looks := false }, kinds := [], alts := [], laidByText := true, laidKinds := [.data], laidTests := true, laidLooks := .later }
def PassLowersCardSaid : Prop := Claim7.holds Tryz.pinned (.plain (OpenSpec.ofChange passLowersSpec)) passLowersCard

/-- THE TIED CARD OF 'berthagelaw17.OpLocks'. -/
def opLocksCard : Claim7 := { stood := { row := opLocksRow, standIns := [], harness := (true, "7b9ec7e5fac3e90d9c04e31fbadae6eb9988fba6cd3308fca5795180fc9325f6"), looks := false }, kinds := [], alts := [], laidByText := true, laidKinds := [.data], laidTests := true, laidLooks := .later }
def OpLocksCardSaid : Prop := Claim7.holds Tryz.pinned (.plain (OpenSpec.ofChange opLocksSpec)) opLocksCard

/-- THE TIED CARD OF 'berthagelaw17.OpWaits'. -/
def opWaitsCard : Claim7 := { stood := { row := opWaitsRow, standIns := [], harness := (true, "7b9ec7e5fac3e90d9c04e31fbadae6eb9988fba6cd3308fca5795180fc9325f6"), looks := false }, kinds := [], alts := [], laidByText := true, laidKinds := [.data], laidTests := true, laidLooks := .later }
def OpWaitsCardSaid : Prop := Claim7.holds Tryz.pinned (.plain (OpenSpec.ofChange opWaitsSpec)) opWaitsCard

/-- THE TIED CARD OF 'berthagelaw18.FillWaits'. -/
def fillWaitsCard : Claim7 := { stood := { row := fillWaitsRow, standIns := [], harness := (true, "7b9ec7e5fac3e90d9c04e31fbadae6eb9988fba6cd3308fca5795180fc9325f6"), looks := false }, kinds := [], alts := [], laidByText := true, laidKinds := [.data], laidTests := true, laidLooks := .later }
def FillWaitsCardSaid : Prop := Claim7.holds Tryz.pinned (.plain (OpenSpec.ofChange fillWaitsSpec)) fillWaitsCard

/-- THE TIED CARD OF 'berthagelaw15.PassRuns'. -/
def passRunsCard : Claim7 := { stood := { row := passRunsRow, standIns := [], harness := (true, "7b9ec7e5fac3e90d9c04e31fbadae6eb9988fba6cd3308fca5795180fc9325f6"), looks := false }, kinds := [], alts := [], laidByText := true, laidKinds := [.data], laidTests := true, laidLooks := .later }
def PassRunsCardSaid : Prop := Claim7.holds Tryz.pinned (.plain (OpenSpec.ofChange passRunsSpec)) passRunsCard

/-- THE TIED CARD OF 'berthagelaw15.PassOpen'. -/
def passOpenCard : Claim7 := { stood := { row := passOpenRow, standIns := [], harness := (true, "7b9ec7e5fac3e90d9c04e31fbadae6eb9988fba6cd3308fca5795180fc9325f6"), looks := false }, kinds := [], alts := [], laidByText := true, laidKinds := [.data], laidTests := true, laidLooks := .later }
def PassOpenCardSaid : Prop := Claim7.holds Tryz.pinned (.plain (OpenSpec.ofChange passOpenSpec)) passOpenCard

/-- THE TIED CARD OF 'berthagelaw17.OpAlone'. -/
def opAloneCard : Claim7 := { stood := { row := opAloneRow, standIns := [], harness := (true, "7b9ec7e5fac3e90d9c04e31fbadae6eb9988fba6cd3308fca5795180fc9325f6"), looks := false }, kinds := [], alts := [], laidByText := true, laidKinds := [.data], laidTests := true, laidLooks := .later }
def OpAloneCardSaid : Prop := Claim7.holds Tryz.pinned (.plain (OpenSpec.ofChange opAloneSpec)) opAloneCard

/-- THE TIED CARD OF 'berthagelaw21.LineAgrees'. -/
def lineAgreesCard : Claim7 := { stood := { row := lineAgreesRow, standIns := [], harness := (true, "7b9ec7e5fac3e90d9c04e31fbadae6eb9988fba6cd3308fca5795180fc9325f6"), looks := false }, kinds := [], alts := [], laidByText := true, laidKinds := [.data], laidTests := true, laidLooks := .later }
def LineAgreesCardSaid : Prop := Claim7.holds Tryz.pinned (.plain (OpenSpec.ofChange lineAgreesSpec)) lineAgreesCard

/-- THE TIED CARD OF 'berthagelaw15.PassQuiet'. -/
def passQuietCard : Claim7 := { stood := { row := passQuietRow, standIns := [], harness := (true, "7b9ec7e5fac3e90d9c04e31fbadae6eb9988fba6cd3308fca5795180fc9325f6"), looks := false }, kinds := [], alts := [], laidByText := true, laidKinds := [.data], laidTests := true, laidLooks := .later }
def PassQuietCardSaid : Prop := Claim7.holds Tryz.pinned (.plain (OpenSpec.ofChange passQuietSpec)) passQuietCard

/-- THE SECOND FORM's CARD OF 'berthagelaw17.OpNobody'. -/
def opNobodyUptoCard : Claim7 := { stood := { row := opNobodyUptoRow, standIns := [], harness := (true, "7b9ec7e5fac3e90d9c04e31fbadae6eb9988fba6cd3308fca5795180fc9325f6"), looks := false }, kinds := [], alts := [], laidByText := true, laidKinds := [.data], laidTests := true, laidLooks := .later }
def OpNobodyUptoCardSaid : Prop := Claim7.holds Tryz.pinned (.plain (OpenSpec.upto opNobodySpec)) opNobodyUptoCard

/-- THE SECOND FORM's CARD OF 'berthagelaw18.FillNobody'. -/
def fillNobodyUptoCard : Claim7 := { stood := { row := fillNobodyUptoRow, standIns := [], harness := (true, "7b9ec7e5fac3e90d9c04e31fbadae6eb9988fba6cd3308fca5795180fc9325f6"), looks := false }, kinds := [], alts := [], laidByText := true, laidKinds := [.data], laidTests := true, laidLooks := .later }
def FillNobodyUptoCardSaid : Prop := Claim7.holds Tryz.pinned (.plain (OpenSpec.upto fillNobodySpec)) fillNobodyUptoCard

/-- THE SECOND FORM's CARD OF 'berthagelaw40.SnapNobody'. -/
def snapNobodyUptoCard : Claim7 := { stood := { row := snapNobodyUptoRow, standIns := [], harness := (true, "7b9ec7e5fac3e90d9c04e31fbadae6eb9988fba6cd3308fca5795180fc9325f6"), looks := false }, kinds := [], alts := [], laidByText := true, laidKinds := [.data], laidTests := true, laidLooks := .later }
def SnapNobodyUptoCardSaid : Prop := Claim7.holds Tryz.pinned (.plain (OpenSpec.upto snapNobodySpec)) snapNobodyUptoCard

/-- THE SECOND FORM's CARD OF 'berthagelaw15.PassLowers'. -/
def passLowersUptoCard : Claim7 := { stood := { row := passLowersUptoRow, standIns := [], harness := (true, "7b9ec7e5fac3e90d9c04e31fbadae6eb9988fba6cd3308fca5795180fc9325f6"), looks := false }, kinds := [], alts := [], laidByText := true, laidKinds := [.data], laidTests := true, laidLooks := .later }
def PassLowersUptoCardSaid : Prop := Claim7.holds Tryz.pinned (.plain (OpenSpec.upto passLowersSpec)) passLowersUptoCard

/-- THE SECOND FORM's CARD OF 'berthagelaw17.OpLocks'. -/
def opLocksUptoCard : Claim7 := { stood := { row := opLocksUptoRow, standIns := [], harness := (true, "7b9ec7e5fac3e90d9c04e31fbadae6eb9988fba6cd3308fca5795180fc9325f6"), looks := false }, kinds := [], alts := [], laidByText := true, laidKinds := [.data], laidTests := true, laidLooks := .later }
def OpLocksUptoCardSaid : Prop := Claim7.holds Tryz.pinned (.plain (OpenSpec.upto opLocksSpec)) opLocksUptoCard

/-- THE SECOND FORM's CARD OF 'berthagelaw17.OpWaits'. -/
def opWaitsUptoCard : Claim7 := { stood := { row := opWaitsUptoRow, standIns := [], harness := (true, "7b9ec7e5fac3e90d9c04e31fbadae6eb9988fba6cd3308fca5795180fc9325f6"), looks := false }, kinds := [], alts := [], laidByText := true, laidKinds := [.data], laidTests := true, laidLooks := .later }
def OpWaitsUptoCardSaid : Prop := Claim7.holds Tryz.pinned (.plain (OpenSpec.upto opWaitsSpec)) opWaitsUptoCard

/-- THE SECOND FORM's CARD OF 'berthagelaw18.FillWaits'. -/
def fillWaitsUptoCard : Claim7 := { stood := { row := fillWaitsUptoRow, standIns := [], harness := (true, "7b9ec7e5fac3e90d9c04e31fbadae6eb9988fba6cd3308fca5795180fc9325f6"), looks := false }, kinds := [], alts := [], laidByText := true, laidKinds := [.data], laidTests := true, laidLooks := .later }
def FillWaitsUptoCardSaid : Prop := Claim7.holds Tryz.pinned (.plain (OpenSpec.upto fillWaitsSpec)) fillWaitsUptoCard

/-- THE SECOND FORM's CARD OF 'berthagelaw15.PassRuns'. -/
def passRunsUptoCard : Claim7 := { stood := { row := passRunsUptoRow, standIns := [], harness := (true, "7b9ec7e5fac3e90d9c04e31fbadae6eb9988fba6cd3308fca5795180fc9325f6"), looks := false }, kinds := [], alts := [], laidByText := true, laidKinds := [.data], laidTests := true, laidLooks := .later }
def PassRunsUptoCardSaid : Prop := Claim7.holds Tryz.pinned (.plain (OpenSpec.upto passRunsSpec)) passRunsUptoCard

/-- THE SECOND FORM's CARD OF 'berthagelaw15.PassOpen'. -/
def passOpenUptoCard : Claim7 := { stood := { row := passOpenUptoRow, standIns := [], harness := (true, "7b9ec7e5fac3e90d9c04e31fbadae6eb9988fba6cd3308fca5795180fc9325f6"), looks := false }, kinds := [], alts := [], laidByText := true, laidKinds := [.data], laidTests := true, laidLooks := .later }
def PassOpenUptoCardSaid : Prop := Claim7.holds Tryz.pinned (.plain (OpenSpec.upto passOpenSpec)) passOpenUptoCard

/-- THE SECOND FORM's CARD OF 'berthagelaw17.OpAlone'. -/
def opAloneUptoCard : Claim7 := { stood := { row := opAloneUptoRow, standIns := [], harness := (true, "7b9ec7e5fac3e90d9c04e31fbadae6eb9988fba6cd3308fca5795180fc9325f6"), looks := false }, kinds := [], alts := [], laidByText := true, laidKinds := [.data], laidTests := true, laidLooks := .later }
def OpAloneUptoCardSaid : Prop := Claim7.holds Tryz.pinned (.plain (OpenSpec.upto opAloneSpec)) opAloneUptoCard

/-- THE SECOND FORM's CARD OF 'berthagelaw21.LineAgrees'. -/
def lineAgreesUptoCard : Claim7 := { stood := { row := lineAgreesUptoRow, standIns := [], harness := (true, "7b9ec7e5fac3e90d9c04e31fbadae6eb9988fba6cd3308fca5795180fc9325f6"), looks := false }, kinds := [], alts := [], laidByText := true, laidKinds := [.data], laidTests := true, laidLooks := .later }
def LineAgreesUptoCardSaid : Prop := Claim7.holds Tryz.pinned (.plain (OpenSpec.upto lineAgreesSpec)) lineAgreesUptoCard

/-- THE SECOND FORM's CARD OF 'berthagelaw15.PassQuiet'. -/
def passQuietUptoCard : Claim7 := { stood := { row := passQuietUptoRow, standIns := [], harness := (true, "7b9ec7e5fac3e90d9c04e31fbadae6eb9988fba6cd3308fca5795180fc9325f6"), looks := false }, kinds := [], alts := [], laidByText := true, laidKinds := [.data], laidTests := true, laidLooks := .later }
def PassQuietUptoCardSaid : Prop := Claim7.holds Tryz.pinned (.plain (OpenSpec.upto passQuietSpec)) passQuietUptoCard
end Rows
end Go.Proofs.YtbbbodfikgdhcaaGreatDoor
