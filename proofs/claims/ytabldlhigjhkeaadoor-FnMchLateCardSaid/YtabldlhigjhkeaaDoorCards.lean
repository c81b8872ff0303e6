/-
  DERIVED. GIVEN WITH THE SEED: THE CARDS: each row of YtabldlhigjhkeaaDoorRows.lean that lists a variable, with what it lists TIED to the program's text (the seventh form; the later family's looks); each row that meets fmt, with fmt's text TOLD by the authors' own Lean function (tested against real Go, not proved from fmt's source: count such statements apart). THE CARD IS WHAT COUNTS. Prove the row's statement (the work); the ties are given (YtabldlhigjhkeaaDoorTie.lean); close each card by the builder's one call (the guide's Derived/Test/ToyasCard.lean, 'card_holds'). Laid BY PROGRAM, IN A SANDBOX (cutbox-door.mjs). By AI agents, Wed Nov 11 2026. No macro, syntax, notation, axiom, sorry.
-/
import Derived.Test.YtabldlhigjhkeaaDoorRows
import GoSem.ClaimSeven
namespace Go.Proofs.YtabldlhigjhkeaaDoor
namespace Rows

/-- THE TIED CARD OF 'laws.FnExactMchStep'. -/
def fnExactMchStepCard : Claim7 := { stood := { row := fnExactMchStepRow, standIns := [], harness := (true, "e126e35e2f0c3c68e4d85a9692d7dc67c38b6bb41db2f90557cbae215680dd82"), looks := false }, kinds := [], alts := [], laidByText := true, laidKinds := [.widerDeep], laidTests := true, laidLooks := .later }
def FnExactMchStepCardSaid : Prop := Claim7.holds Tryd.pinned (.plain (OpenSpec.ofChange fnExactMchStepSpec)) fnExactMchStepCard

/-- THE TIED CARD OF 'laws.FnExactMchRun'. -/
def fnExactMchRunCard : Claim7 := { stood := { row := fnExactMchRunRow, standIns := [], harness := (true, "e126e35e2f0c3c68e4d85a9692d7dc67c38b6bb41db2f90557cbae215680dd82"), looks := false }, kinds := [], alts := [], laidByText := true, laidKinds := [.widerDeep], laidTests := true, laidLooks := .later }
def FnExactMchRunCardSaid : Prop := Claim7.holds Tryd.pinned (.plain (OpenSpec.ofChange fnExactMchRunSpec)) fnExactMchRunCard

/-- THE TIED CARD OF 'laws.FnMchOne'. -/
def fnMchOneCard : Claim7 := { stood := { row := fnMchOneRow, standIns := [], harness := (true, "e126e35e2f0c3c68e4d85a9692d7dc67c38b6bb41db2f90557cbae215680dd82"), looks := false }, kinds := [], alts := [], laidByText := true, laidKinds := [.widerDeep], laidTests := true, laidLooks := .later }
def FnMchOneCardSaid : Prop := Claim7.holds Tryd.pinned (.plain (OpenSpec.ofChange fnMchOneSpec)) fnMchOneCard

/-- THE TIED CARD OF 'laws.FnMchNext'. -/
def fnMchNextCard : Claim7 := { stood := { row := fnMchNextRow, standIns := [], harness := (true, "e126e35e2f0c3c68e4d85a9692d7dc67c38b6bb41db2f90557cbae215680dd82"), looks := false }, kinds := [], alts := [], laidByText := true, laidKinds := [.widerDeep], laidTests := true, laidLooks := .later }
def FnMchNextCardSaid : Prop := Claim7.holds Tryd.pinned (.plain (OpenSpec.ofChange fnMchNextSpec)) fnMchNextCard

/-- THE TIED CARD OF 'laws.FnMchShift'. -/
def fnMchShiftCard : Claim7 := { stood := { row := fnMchShiftRow, standIns := [], harness := (true, "e126e35e2f0c3c68e4d85a9692d7dc67c38b6bb41db2f90557cbae215680dd82"), looks := false }, kinds := [], alts := [], laidByText := true, laidKinds := [.widerDeep], laidTests := true, laidLooks := .later }
def FnMchShiftCardSaid : Prop := Claim7.holds Tryd.pinned (.plain (OpenSpec.ofChange fnMchShiftSpec)) fnMchShiftCard

/-- THE TIED CARD OF 'laws.FnMchPorts'. -/
def fnMchPortsCard : Claim7 := { stood := { row := fnMchPortsRow, standIns := [], harness := (true, "e126e35e2f0c3c68e4d85a9692d7dc67c38b6bb41db2f90557cbae215680dd82"), looks := false }, kinds := [], alts := [], laidByText := true, laidKinds := [.widerDeep], laidTests := true, laidLooks := .later }
def FnMchPortsCardSaid : Prop := Claim7.holds Tryd.pinned (.plain (OpenSpec.ofChange fnMchPortsSpec)) fnMchPortsCard

/-- THE TIED CARD OF 'laws.FnMchIrq'. -/
def fnMchIrqCard : Claim7 := { stood := { row := fnMchIrqRow, standIns := [], harness := (true, "e126e35e2f0c3c68e4d85a9692d7dc67c38b6bb41db2f90557cbae215680dd82"), looks := false }, kinds := [], alts := [], laidByText := true, laidKinds := [.widerDeep], laidTests := true, laidLooks := .later }
def FnMchIrqCardSaid : Prop := Claim7.holds Tryd.pinned (.plain (OpenSpec.ofChange fnMchIrqSpec)) fnMchIrqCard

/-- THE TIED CARD OF 'laws.FnMchStep'. -/
def fnMchStepCard : Claim7 := { stood := { row := fnMchStepRow, standIns := [], harness := (true, "e126e35e2f0c3c68e4d85a9692d7dc67c38b6bb41db2f90557cbae215680dd82"), looks := false }, kinds := [], alts := [], laidByText := true, laidKinds := [.widerDeep], laidTests := true, laidLooks := .later }
def FnMchStepCardSaid : Prop := Claim7.holds Tryd.pinned (.plain (OpenSpec.ofChange fnMchStepSpec)) fnMchStepCard

/-- THE TIED CARD OF 'laws.FnMchCome'. -/
def fnMchComeCard : Claim7 := { stood := { row := fnMchComeRow, standIns := [], harness := (true, "e126e35e2f0c3c68e4d85a9692d7dc67c38b6bb41db2f90557cbae215680dd82"), looks := false }, kinds := [], alts := [], laidByText := true, laidKinds := [.widerDeep], laidTests := true, laidLooks := .later }
def FnMchComeCardSaid : Prop := Claim7.holds Tryd.pinned (.plain (OpenSpec.ofChange fnMchComeSpec)) fnMchComeCard

/-- THE TIED CARD OF 'laws.FnMchReturn'. -/
def fnMchReturnCard : Claim7 := { stood := { row := fnMchReturnRow, standIns := [], harness := (true, "e126e35e2f0c3c68e4d85a9692d7dc67c38b6bb41db2f90557cbae215680dd82"), looks := false }, kinds := [], alts := [], laidByText := true, laidKinds := [.widerDeep], laidTests := true, laidLooks := .later }
def FnMchReturnCardSaid : Prop := Claim7.holds Tryd.pinned (.plain (OpenSpec.ofChange fnMchReturnSpec)) fnMchReturnCard

/-- THE TIED CARD OF 'laws.FnMchLate'. -/
def fnMchLateCard : Claim7 := { stood := { row := fnMchLateRow, standIns := [], harness := (true, "e126e35e2f0c3c68e4d85a9692d7dc67c38b6bb41db2f90557cbae215680dd82"), looks := false }, kinds := [], alts := [], laidByText := true, laidKinds := [.widerDeep], laidTests := true, laidLooks := .later }
def FnMchLateCardSaid : Prop := Claim7.holds Tryd.pinned (.plain (OpenSpec.ofChange fnMchLateSpec)) fnMchLateCard

/-- THE TIED CARD OF 'laws.FnMchRun'. -/
def fnMchRunCard : Claim7 := { stood := { row := fnMchRunRow, standIns := [], harness := (true, "e126e35e2f0c3c68e4d85a9692d7dc67c38b6bb41db2f90557cbae215680dd82"), looks := false }, kinds := [], alts := [], laidByText := true, laidKinds := [.widerDeep], laidTests := true, laidLooks := .later }
def FnMchRunCardSaid : Prop := Claim7.holds Tryd.pinned (.plain (OpenSpec.ofChange fnMchRunSpec)) fnMchRunCard

/-- THE TIED CARD OF 'laws.FnMchStop'. -/
def fnMchStopCard : Claim7 := { stood := { row := fnMchStopRow, standIns := [], harness := (true, "e126e35e2f0c3c68e4d85a9692d7dc67c38b6bb41db2f90557cbae215680dd82"), looks := false }, kinds := [], alts := [], laidByText := true, laidKinds := [.widerDeep], laidTests := true, laidLooks := .later }
def FnMchStopCardSaid : Prop := Claim7.holds Tryd.pinned (.plain (OpenSpec.ofChange fnMchStopSpec)) fnMchStopCard

/-- THE SECOND FORM's CARD OF 'laws.FnExactMchStep'. -/
def fnExactMchStepUptoCard : Claim7 := { stood := { row := fnExactMchStepUptoRow, standIns := [], harness := (true, "e126e35e2f0c3c68e4d85a9692d7dc67c38b6bb41db2f90557cbae215680dd82"), looks := false }, kinds := [], alts := [], laidByText := true, laidKinds := [.widerDeep], laidTests := true, laidLooks := .later }
def FnExactMchStepUptoCardSaid : Prop := Claim7.holds Tryd.pinned (.plain (OpenSpec.upto fnExactMchStepSpec)) fnExactMchStepUptoCard

/-- THE SECOND FORM's CARD OF 'laws.FnExactMchRun'. -/
def fnExactMchRunUptoCard : Claim7 := { stood := { row := fnExactMchRunUptoRow, standIns := [], harness := (true, "e126e35e2f0c3c68e4d85a9692d7dc67c38b6bb41db2f90557cbae215680dd82"), looks := false }, kinds := [], alts := [], laidByText := true, laidKinds := [.widerDeep], laidTests := true, laidLooks := .later }
def FnExactMchRunUptoCardSaid : Prop := Claim7.holds Tryd.pinned (.plain (OpenSpec.upto fnExactMchRunSpec)) fnExactMchRunUptoCard

/-- THE SECOND FORM's CARD OF 'laws.FnMchOne'. -/
def fnMchOneUptoCard : Claim7 := { stood := { row := fnMchOneUptoRow, standIns := [], harness := (true, "e126e35e2f0c3c68e4d85a9692d7dc67c38b6bb41db2f90557cbae215680dd82"), looks := false }, kinds := [], alts := [], laidByText := true, laidKinds := [.widerDeep], laidTests := true, laidLooks := .later }
def FnMchOneUptoCardSaid : Prop := Claim7.holds Tryd.pinned (.plain (OpenSpec.upto fnMchOneSpec)) fnMchOneUptoCard

/-- THE SECOND FORM's CARD OF 'laws.FnMchNext'. -/
def fnMchNextUptoCard : Claim7 := { stood := { row := fnMchNextUptoRow, standIns := [], harness := (true, "e126e35e2f0c3c68e4d85a9692d7dc67c38b6bb41db2f90557cbae215680dd82"), looks := false }, kinds := [], alts := [], laidByText := true, laidKinds := [.widerDeep], laidTests := true, laidLooks := .later }
def FnMchNextUptoCardSaid : Prop := Claim7.holds Tryd.pinned (.plain (OpenSpec.upto fnMchNextSpec)) fnMchNextUptoCard

/-- THE SECOND FORM's CARD OF 'laws.FnMchShift'. -/
def fnMchShiftUptoCard : Claim7 := { stood := { row := fnMchShiftUptoRow, standIns := [], harness := (true, "e126e35e2f0c3c68e4d85a9692d7dc67c38b6bb41db2f90557cbae215680dd82"), looks := false }, kinds := [], alts := [], laidByText := true, laidKinds := [.widerDeep], laidTests := true, laidLooks := .later }
def FnMchShiftUptoCardSaid : Prop := Claim7.holds Tryd.pinned (.plain (OpenSpec.upto fnMchShiftSpec)) fnMchShiftUptoCard

/-- THE SECOND FORM's CARD OF 'laws.FnMchPorts'. -/
def fnMchPortsUptoCard : Claim7 := { stood := { row := fnMchPortsUptoRow, standIns := [], harness := (true, "e126e35e2f0c3c68e4d85a9692d7dc67c38b6bb41db2f90557cbae215680dd82"), looks := false }, kinds := [], alts := [], laidByText := true, laidKinds := [.widerDeep], laidTests := true, laidLooks := .later }
def FnMchPortsUptoCardSaid : Prop := Claim7.holds Tryd.pinned (.plain (OpenSpec.upto fnMchPortsSpec)) fnMchPortsUptoCard

/-- THE SECOND FORM's CARD OF 'laws.FnMchIrq'. -/
def fnMchIrqUptoCard : Claim7 := { stood := { row := fnMchIrqUptoRow, standIns := [], harness := (true, "e126e35e2f0c3c68e4d85a9692d7dc67c38b6bb41db2f90557cbae215680dd82"), looks := false }, kinds := [], alts := [], laidByText := true, laidKinds := [.widerDeep], laidTests := true, laidLooks := .later }
def FnMchIrqUptoCardSaid : Prop := Claim7.holds Tryd.pinned (.plain (OpenSpec.upto fnMchIrqSpec)) fnMchIrqUptoCard

/-- THE SECOND FORM's CARD OF 'laws.FnMchStep'. -/
def fnMchStepUptoCard : Claim7 := { stood := { row := fnMchStepUptoRow, standIns := [], harness := (true, "e126e35e2f0c3c68e4d85a9692d7dc67c38b6bb41db2f90557cbae215680dd82"), looks := false }, kinds := [], alts := [], laidByText := true, laidKinds := [.widerDeep], laidTests := true, laidLooks := .later }
def FnMchStepUptoCardSaid : Prop := Claim7.holds Tryd.pinned (.plain (OpenSpec.upto fnMchStepSpec)) fnMchStepUptoCard

/-- THE SECOND FORM's CARD OF 'laws.FnMchCome'. -/
def fnMchComeUptoCard : Claim7 := { stood := { row := fnMchComeUptoRow, standIns := [], harness := (true, "e126e35e2f0c3c68e4d85a9692d7dc67c38b6bb41db2f90557cbae215680dd82"), looks := false }, kinds := [], alts := [], laidByText := true, laidKinds := [.widerDeep], laidTests := true, laidLooks := .later }
def FnMchComeUptoCardSaid : Prop := Claim7.holds Tryd.pinned (.plain (OpenSpec.upto fnMchComeSpec)) fnMchComeUptoCard

/-- THE SECOND FORM's CARD OF 'laws.FnMchReturn'. -/
def fnMchReturnUptoCard : Claim7 := { stood := { row := fnMchReturnUptoRow, standIns := [], harness := (true, "e126e35e2f0c3c68e4d85a9692d7dc67c38b6bb41db2f90557cbae215680dd82"), looks := false }, kinds := [], alts := [], laidByText := true, laidKinds := [.widerDeep], laidTests := true, laidLooks := .later }
def FnMchReturnUptoCardSaid : Prop := Claim7.holds Tryd.pinned (.plain (OpenSpec.upto fnMchReturnSpec)) fnMchReturnUptoCard

/-- THE SECOND FORM's CARD OF 'laws.FnMchLate'. -/
def fnMchLateUptoCard : Claim7 := { stood := { row := fnMchLateUptoRow, standIns := [], harness := (true, "e126e35e2f0c3c68e4d85a9692d7dc67c38b6bb41db2f90557cbae215680dd82"), looks := false }, kinds := [], alts := [], laidByText := true, laidKinds := [.widerDeep], laidTests := true, laidLooks := .later }
def FnMchLateUptoCardSaid : Prop := Claim7.holds Tryd.pinned (.plain (OpenSpec.upto fnMchLateSpec)) fnMchLateUptoCard

/-- THE SECOND FORM's CARD OF 'laws.FnMchRun'. -/
def fnMchRunUptoCard : Claim7 := { stood := { row := fnMchRunUptoRow, standIns := [], harness := (true, "e126e35e2f0c3c68e4d85a9692d7dc67c38b6bb41db2f90557cbae215680dd82"), looks := false }, kinds := [], alts := [], laidByText := true, laidKinds := [.widerDeep], laidTests := true, laidLooks := .later }
def FnMchRunUptoCardSaid : Prop := Claim7.holds Tryd.pinned (.plain (OpenSpec.upto fnMchRunSpec)) fnMchRunUptoCard

/-- THE SECOND FORM's CARD OF 'laws.FnMchStop'. -/
def fnMchStopUptoCard : Claim7 := { stood := { row := fnMchStopUptoRow, standIns := [], harness := (true, "e126e35e2f0c3c68e4d85a9692d7dc67c38b6bb41db2f90557cbae215680dd82"), looks := false }, kinds := [], alts := [], laidByText := true, laidKinds := [.widerDeep], laidTests := true, laidLooks := .later }
def FnMchStopUptoCardSaid : Prop := Claim7.holds Tryd.pinned (.plain (OpenSpec.upto fnMchStopSpec)) fnMchStopUptoCard
end Rows
end Go.Proofs.YtabldlhigjhkeaaDoor
