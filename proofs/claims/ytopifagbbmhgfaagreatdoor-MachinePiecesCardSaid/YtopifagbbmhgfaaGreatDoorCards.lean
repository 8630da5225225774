/-
  DERIVED. GIVEN WITH THE SEED: THE CARDS: each row of YtopifagbbmhgfaaGreatDoorRows.lean that lists a variable, with what it lists TIED to the program's text (the seventh form; the later family's looks); each row that meets fmt, with fmt's text TOLD by the authors' own Lean function (tested against real Go, not proved from fmt's source: count such statements apart). THE CARD IS WHAT COUNTS. Prove the row's statement (the work); the ties are given (YtopifagbbmhgfaaGreatDoorTie.lean); close each card by the builder's one call (the guide's Derived/Test/ToyasCard.lean, 'card_holds'). Laid BY PROGRAM, IN A SANDBOX (cutbox-door.mjs). By AI agents, Wed Nov 11 2026. No macro, syntax, notation, axiom, sorry.
-/
import Derived.Test.YtopifagbbmhgfaaGreatDoorRows
import GoSem.ClaimSeven
namespace Go.Proofs.YtopifagbbmhgfaaGreatDoor
namespace Rows

/-- THE TIED CARD OF 'onceweblaw08.EvalFolds'. -/
def evalFoldsCard : Claim7 := { stood := { row := evalFoldsRow, standIns := [], harness := (true, "98b5e1f7ad1976b3269a48f2b26148d262697e824a61c4886faf5bb7193a552a"), looks := false }, kinds := [], alts := [], laidByText := true, laidKinds := [.widerDeep, .data, .widerDeep], laidTests := true, laidLooks := .later }
def EvalFoldsCardSaid : Prop := Claim7.holds Tryz.pinned (.plain (OpenSpec.ofChange evalFoldsSpec)) evalFoldsCard

/-- THE TIED CARD OF 'onceweblaw08.EvalFolded'. -/
def evalFoldedCard : Claim7 := { stood := { row := evalFoldedRow, standIns := [], harness := (true, "98b5e1f7ad1976b3269a48f2b26148d262697e824a61c4886faf5bb7193a552a"), looks := false }, kinds := [], alts := [], laidByText := true, laidKinds := [.widerDeep, .data, .widerDeep], laidTests := true, laidLooks := .later }
def EvalFoldedCardSaid : Prop := Claim7.holds Tryz.pinned (.plain (OpenSpec.ofChange evalFoldedSpec)) evalFoldedCard

/-- THE TIED CARD OF 'onceweblaw10.MachinePlays'. -/
def machinePlaysCard : Claim7 := { stood := { row := machinePlaysRow, standIns := [], harness := (true, "98b5e1f7ad1976b3269a48f2b26148d262697e824a61c4886faf5bb7193a552a"), looks := false }, kinds := [], alts := [], laidByText := true, laidKinds := [.widerDeep, .data, .widerDeep], laidTests := true, laidLooks := .later }
def MachinePlaysCardSaid : Prop := Claim7.holds Tryz.pinned (.plain (OpenSpec.ofChange machinePlaysSpec)) machinePlaysCard

/-- THE TIED CARD OF 'onceweblaw10.MachinePieces'. -/
def machinePiecesCard : Claim7 := { stood := { row := machinePiecesRow, standIns := [], harness := (true, "98b5e1f7ad1976b3269a48f2b26148d262697e824a61c4886faf5bb7193a552a"), looks := false }, kinds := [], alts := [], laidByText := true, laidKinds := [.widerDeep, .data, .widerDeep], laidTests := true, laidLooks := .later }
def MachinePiecesCardSaid : Prop := Claim7.holds Tryz.pinned (.plain (OpenSpec.ofChange machinePiecesSpec)) machinePiecesCard

/-- THE TIED CARD OF 'onceweblaw10.MachineRuns'. -/
def machineRunsCard : Claim7 := { stood := { row := machineRunsRow, standIns := [], harness := (true, "98b5e1f7ad1976b3269a48f2b26148d262697e824a61c4886faf5bb7193a552a"), looks := false }, kinds := [], alts := [], laidByText := true, laidKinds := [.widerDeep, .data, .widerDeep], laidTests := true, laidLooks := .later }
def MachineRunsCardSaid : Prop := Claim7.holds Tryz.pinned (.plain (OpenSpec.ofChange machineRunsSpec)) machineRunsCard

/-- THE TIED CARD OF 'onceweblaw10.MachineMeans'. -/
def machineMeansCard : Claim7 := { stood := { row := machineMeansRow, standIns := [], harness := (true, "98b5e1f7ad1976b3269a48f2b26148d262697e824a61c4886faf5bb7193a552a"), looks := false }, kinds := [], alts := [], laidByText := true, laidKinds := [.widerDeep, .data, .widerDeep], laidTests := true, laidLooks := .later }
def MachineMeansCardSaid : Prop := Claim7.holds Tryz.pinned (.plain (OpenSpec.ofChange machineMeansSpec)) machineMeansCard

/-- THE TIED CARD OF 'onceweblaw25.LazyLeasts'. -/
def lazyLeastsCard : Claim7 := { stood := { row := lazyLeastsRow, standIns := [], harness := (true, "98b5e1f7ad1976b3269a48f2b26148d262697e824a61c4886faf5bb7193a552a"), looks := false }, kinds := [], alts := [], laidByText := true, laidKinds := [.widerDeep, .data, .widerDeep], laidTests := true, laidLooks := .later }
def LazyLeastsCardSaid : Prop := Claim7.holds Tryz.pinned (.plain (OpenSpec.ofChange lazyLeastsSpec)) lazyLeastsCard

/-- THE TIED CARD OF 'onceweblaw25.LazyAlongs'. -/
def lazyAlongsCard : Claim7 := { stood := { row := lazyAlongsRow, standIns := [], harness := (true, "98b5e1f7ad1976b3269a48f2b26148d262697e824a61c4886faf5bb7193a552a"), looks := false }, kinds := [], alts := [], laidByText := true, laidKinds := [.widerDeep, .data, .widerDeep], laidTests := true, laidLooks := .later }
def LazyAlongsCardSaid : Prop := Claim7.holds Tryz.pinned (.plain (OpenSpec.ofChange lazyAlongsSpec)) lazyAlongsCard

/-- THE TIED CARD OF 'onceweblaw25.LazyAlones'. -/
def lazyAlonesCard : Claim7 := { stood := { row := lazyAlonesRow, standIns := [], harness := (true, "98b5e1f7ad1976b3269a48f2b26148d262697e824a61c4886faf5bb7193a552a"), looks := false }, kinds := [], alts := [], laidByText := true, laidKinds := [.widerDeep, .data, .widerDeep], laidTests := true, laidLooks := .later }
def LazyAlonesCardSaid : Prop := Claim7.holds Tryz.pinned (.plain (OpenSpec.ofChange lazyAlonesSpec)) lazyAlonesCard

/-- THE TIED CARD OF 'onceweblaw25.LazyGates'. -/
def lazyGatesCard : Claim7 := { stood := { row := lazyGatesRow, standIns := [], harness := (true, "98b5e1f7ad1976b3269a48f2b26148d262697e824a61c4886faf5bb7193a552a"), looks := false }, kinds := [], alts := [], laidByText := true, laidKinds := [.widerDeep, .data, .widerDeep], laidTests := true, laidLooks := .later }
def LazyGatesCardSaid : Prop := Claim7.holds Tryz.pinned (.plain (OpenSpec.ofChange lazyGatesSpec)) lazyGatesCard

/-- THE TIED CARD OF 'onceweblaw25.LazyOrder'. -/
def lazyOrderCard : Claim7 := { stood := { row := lazyOrderRow, standIns := [], harness := (true, "98b5e1f7ad1976b3269a48f2b26148d262697e824a61c4886faf5bb7193a552a"), looks := false }, kinds := [], alts := [], laidByText := true, laidKinds := [.widerDeep, .data, .widerDeep], laidTests := true, laidLooks := .later }
def LazyOrderCardSaid : Prop := Claim7.holds Tryz.pinned (.plain (OpenSpec.ofChange lazyOrderSpec)) lazyOrderCard

/-- THE SECOND FORM's CARD OF 'onceweblaw08.EvalFolds'. -/
def evalFoldsUptoCard : Claim7 := { stood := { row := evalFoldsUptoRow, standIns := [], harness := (true, "98b5e1f7ad1976b3269a48f2b26148d262697e824a61c4886faf5bb7193a552a"), looks := false }, kinds := [], alts := [], laidByText := true, laidKinds := [.widerDeep, .data, .widerDeep], laidTests := true, laidLooks := .later }
def EvalFoldsUptoCardSaid : Prop := Claim7.holds Tryz.pinned (.plain (OpenSpec.upto evalFoldsSpec)) evalFoldsUptoCard

/-- THE SECOND FORM's CARD OF 'onceweblaw08.EvalFolded'. -/
def evalFoldedUptoCard : Claim7 := { stood := { row := evalFoldedUptoRow, standIns := [], harness := (true, "98b5e1f7ad1976b3269a48f2b26148d262697e824a61c4886faf5bb7193a552a"), looks := false }, kinds := [], alts := [], laidByText := true, laidKinds := [.widerDeep, .data, .widerDeep], laidTests := true, laidLooks := .later }
def EvalFoldedUptoCardSaid : Prop := Claim7.holds Tryz.pinned (.plain (OpenSpec.upto evalFoldedSpec)) evalFoldedUptoCard

/-- THE SECOND FORM's CARD OF 'onceweblaw10.MachinePlays'. -/
def machinePlaysUptoCard : Claim7 := { stood := { row := machinePlaysUptoRow, standIns := [], harness := (true, "98b5e1f7ad1976b3269a48f2b26148d262697e824a61c4886faf5bb7193a552a"), looks := false }, kinds := [], alts := [], laidByText := true, laidKinds := [.widerDeep, .data, .widerDeep], laidTests := true, laidLooks := .later }
def MachinePlaysUptoCardSaid : Prop := Claim7.holds Tryz.pinned (.plain (OpenSpec.upto machinePlaysSpec)) machinePlaysUptoCard

/-- THE SECOND FORM's CARD OF 'onceweblaw10.MachinePieces'. -/
def machinePiecesUptoCard : Claim7 := { stood := { row := machinePiecesUptoRow, standIns := [], harness := (true, "98b5e1f7ad1976b3269a48f2b26148d262697e824a61c4886faf5bb7193a552a"), looks := false }, kinds := [], alts := [], laidByText := true, laidKinds := [.widerDeep, .data, .widerDeep], laidTests := true, laidLooks := .later }
def MachinePiecesUptoCardSaid : Prop := Claim7.holds Tryz.pinned (.plain (OpenSpec.upto machinePiecesSpec)) machinePiecesUptoCard

/-- THE SECOND FORM's CARD OF 'onceweblaw10.MachineRuns'. -/
def machineRunsUptoCard : Claim7 := { stood := { row := machineRunsUptoRow, standIns := [], harness := (true, "98b5e1f7ad1976b3269a48f2b26148d262697e824a61c4886faf5bb7193a552a"), looks := false }, kinds := [], alts := [], laidByText := true, laidKinds := [.widerDeep, .data, .widerDeep], laidTests := true, laidLooks := .later }
def MachineRunsUptoCardSaid : Prop := Claim7.holds Tryz.pinned (.plain (OpenSpec.upto machineRunsSpec)) machineRunsUptoCard

/-- THE SECOND FORM's CARD OF 'onceweblaw10.MachineMeans'. -/
def machineMeansUptoCard : Claim7 := { stood := { row := machineMeansUptoRow, standIns := [], harness := (true, "98b5e1f7ad1976b3269a48f2b26148d262697e824a61c4886faf5bb7193a552a"), looks := false }, kinds := [], alts := [], laidByText := true, laidKinds := [.widerDeep, .data, .widerDeep], laidTests := true, laidLooks := .later }
def MachineMeansUptoCardSaid : Prop := Claim7.holds Tryz.pinned (.plain (OpenSpec.upto machineMeansSpec)) machineMeansUptoCard

/-- THE SECOND FORM's CARD OF 'onceweblaw25.LazyLeasts'. -/
def lazyLeastsUptoCard : Claim7 := { stood := { row := lazyLeastsUptoRow, standIns := [], harness := (true, "98b5e1f7ad1976b3269a48f2b26148d262697e824a61c4886faf5bb7193a552a"), looks := false }, kinds := [], alts := [], laidByText := true, laidKinds := [.widerDeep, .data, .widerDeep], laidTests := true, laidLooks := .later }
def LazyLeastsUptoCardSaid : Prop := Claim7.holds Tryz.pinned (.plain (OpenSpec.upto lazyLeastsSpec)) lazyLeastsUptoCard

/-- THE SECOND FORM's CARD OF 'onceweblaw25.LazyAlongs'. -/
def lazyAlongsUptoCard : Claim7 := { stood := { row := lazyAlongsUptoRow, standIns := [], harness := (true, "98b5e1f7ad1976b3269a48f2b26148d262697e824a61c4886faf5bb7193a552a"), looks := false }, kinds := [], alts := [], laidByText := true, laidKinds := [.widerDeep, .data, .widerDeep], laidTests := true, laidLooks := .later }
def LazyAlongsUptoCardSaid : Prop := Claim7.holds Tryz.pinned (.plain (OpenSpec.upto lazyAlongsSpec)) lazyAlongsUptoCard

/-- THE SECOND FORM's CARD OF 'onceweblaw25.LazyAlones'. -/
def lazyAlonesUptoCard : Claim7 := { stood := { row := lazyAlonesUptoRow, standIns := [], harness := (true, "98b5e1f7ad1976b3269a48f2b26148d262697e824a61c4886faf5bb7193a552a"), looks := false }, kinds := [], alts := [], laidByText := true, laidKinds := [.widerDeep, .data, .widerDeep], laidTests := true, laidLooks := .later }
def LazyAlonesUptoCardSaid : Prop := Claim7.holds Tryz.pinned (.plain (OpenSpec.upto lazyAlonesSpec)) lazyAlonesUptoCard

/-- THE SECOND FORM's CARD OF 'onceweblaw25.LazyGates'. -/
def lazyGatesUptoCard : Claim7 := { stood := { row := lazyGatesUptoRow, standIns := [], harness := (true, "98b5e1f7ad1976b3269a48f2b26148d262697e824a61c4886faf5bb7193a552a"), looks := false }, kinds := [], alts := [], laidByText := true, laidKinds := [.widerDeep, .data, .widerDeep], laidTests := true, laidLooks := .later }
def LazyGatesUptoCardSaid : Prop := Claim7.holds Tryz.pinned (.plain (OpenSpec.upto lazyGatesSpec)) lazyGatesUptoCard

/-- THE SECOND FORM's CARD OF 'onceweblaw25.LazyOrder'. -/
def lazyOrderUptoCard : Claim7 := { stood := { row := lazyOrderUptoRow, standIns := [], harness := (true, "98b5e1f7ad1976b3269a48f2b26148d262697e824a61c4886faf5bb7193a552a"), looks := false }, kinds := [], alts := [], laidByText := true, laidKinds := [.widerDeep, .data, .widerDeep], laidTests := true, laidLooks := .later }
def LazyOrderUptoCardSaid : Prop := Claim7.holds Tryz.pinned (.plain (OpenSpec.upto lazyOrderSpec)) lazyOrderUptoCard
end Rows
end Go.Proofs.YtopifagbbmhgfaaGreatDoor
