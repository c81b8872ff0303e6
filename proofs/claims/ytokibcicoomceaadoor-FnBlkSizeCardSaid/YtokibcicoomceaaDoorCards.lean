/-
  DERIVED. GIVEN WITH THE SEED: THE CARDS: each row of YtokibcicoomceaaDoorRows.lean that lists a variable, with what it lists TIED to the program's text (the seventh form; the later family's looks); each row that meets fmt, with fmt's text TOLD by the authors' own Lean function (tested against real Go, not proved from fmt's source: count such statements apart). THE CARD IS WHAT COUNTS. Prove the row's statement (the work); the ties are given (YtokibcicoomceaaDoorTie.lean); close each card by the builder's one call (the guide's Derived/Test/ToyasCard.lean, 'card_holds'). Laid BY PROGRAM, IN A SANDBOX (cutbox-door.mjs). By AI agents, Wed Nov 11 2026. No macro, syntax, notation, axiom, sorry.
-/
import Derived.Test.YtokibcicoomceaaDoorRows
import GoSem.ClaimSeven
namespace Go.Proofs.YtokibcicoomceaaDoor
namespace Rows

/-- THE TIED CARD OF 'laws.FnBlkOk'. -/
def fnBlkOkCard : Claim7 := { stood := { row := fnBlkOkRow, standIns := [], harness := (true, "e9c27eb4a770361095902e0ff07b7d1811f55cd5bb4da066faa199bb90a27930"), looks := false }, kinds := [], alts := [], laidByText := true, laidKinds := [.widerDeep], laidTests := true, laidLooks := .later }
def FnBlkOkCardSaid : Prop := Claim7.holds Tryd.pinned (.plain (OpenSpec.ofChange fnBlkOkSpec)) fnBlkOkCard

/-- THE TIED CARD OF 'laws.FnBlkSize'. -/
def fnBlkSizeCard : Claim7 := { stood := { row := fnBlkSizeRow, standIns := [], harness := (true, "e9c27eb4a770361095902e0ff07b7d1811f55cd5bb4da066faa199bb90a27930"), looks := false }, kinds := [], alts := [], laidByText := true, laidKinds := [.widerDeep], laidTests := true, laidLooks := .later }
def FnBlkSizeCardSaid : Prop := Claim7.holds Tryd.pinned (.plain (OpenSpec.ofChange fnBlkSizeSpec)) fnBlkSizeCard

/-- THE TIED CARD OF 'laws.FnBlkTake'. -/
def fnBlkTakeCard : Claim7 := { stood := { row := fnBlkTakeRow, standIns := [], harness := (true, "e9c27eb4a770361095902e0ff07b7d1811f55cd5bb4da066faa199bb90a27930"), looks := false }, kinds := [], alts := [], laidByText := true, laidKinds := [.widerDeep], laidTests := true, laidLooks := .later }
def FnBlkTakeCardSaid : Prop := Claim7.holds Tryd.pinned (.plain (OpenSpec.ofChange fnBlkTakeSpec)) fnBlkTakeCard

/-- THE TIED CARD OF 'laws.FnExactBlkFind'. -/
def fnExactBlkFindCard : Claim7 := { stood := { row := fnExactBlkFindRow, standIns := [], harness := (true, "e9c27eb4a770361095902e0ff07b7d1811f55cd5bb4da066faa199bb90a27930"), looks := false }, kinds := [], alts := [], laidByText := true, laidKinds := [.widerDeep], laidTests := true, laidLooks := .later }
def FnExactBlkFindCardSaid : Prop := Claim7.holds Tryd.pinned (.plain (OpenSpec.ofChange fnExactBlkFindSpec)) fnExactBlkFindCard

/-- THE TIED CARD OF 'laws.FnExactBlkLower'. -/
def fnExactBlkLowerCard : Claim7 := { stood := { row := fnExactBlkLowerRow, standIns := [], harness := (true, "e9c27eb4a770361095902e0ff07b7d1811f55cd5bb4da066faa199bb90a27930"), looks := false }, kinds := [], alts := [], laidByText := true, laidKinds := [.widerDeep], laidTests := true, laidLooks := .later }
def FnExactBlkLowerCardSaid : Prop := Claim7.holds Tryd.pinned (.plain (OpenSpec.ofChange fnExactBlkLowerSpec)) fnExactBlkLowerCard

/-- THE TIED CARD OF 'laws.FnBlkFind'. -/
def fnBlkFindCard : Claim7 := { stood := { row := fnBlkFindRow, standIns := [], harness := (true, "e9c27eb4a770361095902e0ff07b7d1811f55cd5bb4da066faa199bb90a27930"), looks := false }, kinds := [], alts := [], laidByText := true, laidKinds := [.widerDeep], laidTests := true, laidLooks := .later }
def FnBlkFindCardSaid : Prop := Claim7.holds Tryd.pinned (.plain (OpenSpec.ofChange fnBlkFindSpec)) fnBlkFindCard

/-- THE SECOND FORM's CARD OF 'laws.FnBlkOk'. -/
def fnBlkOkUptoCard : Claim7 := { stood := { row := fnBlkOkUptoRow, standIns := [], harness := (true, "e9c27eb4a770361095902e0ff07b7d1811f55cd5bb4da066faa199bb90a27930"), looks := false }, kinds := [], alts := [], laidByText := true, laidKinds := [.widerDeep], laidTests := true, laidLooks := .later }
def FnBlkOkUptoCardSaid : Prop := Claim7.holds Tryd.pinned (.plain (OpenSpec.upto fnBlkOkSpec)) fnBlkOkUptoCard

/-- THE SECOND FORM's CARD OF 'laws.FnBlkSize'. -/
def fnBlkSizeUptoCard : Claim7 := { stood := { row := fnBlkSizeUptoRow, standIns := [], harness := (true, "e9c27eb4a770361095902e0ff07b7d1811f55cd5bb4da066faa199bb90a27930"), looks := false }, kinds := [], alts := [], laidByText := true, laidKinds := [.widerDeep], laidTests := true, laidLooks := .later }
def FnBlkSizeUptoCardSaid : Prop := Claim7.holds Tryd.pinned (.plain (OpenSpec.upto fnBlkSizeSpec)) fnBlkSizeUptoCard

/-- THE SECOND FORM's CARD OF 'laws.FnBlkTake'. -/
def fnBlkTakeUptoCard : Claim7 := { stood := { row := fnBlkTakeUptoRow, standIns := [], harness := (true, "e9c27eb4a770361095902e0ff07b7d1811f55cd5bb4da066faa199bb90a27930"), looks := false }, kinds := [], alts := [], laidByText := true, laidKinds := [.widerDeep], laidTests := true, laidLooks := .later }
def FnBlkTakeUptoCardSaid : Prop := Claim7.holds Tryd.pinned (.plain (OpenSpec.upto fnBlkTakeSpec)) fnBlkTakeUptoCard

/-- THE SECOND FORM's CARD OF 'laws.FnExactBlkFind'. -/
def fnExactBlkFindUptoCard : Claim7 := { stood := { row := fnExactBlkFindUptoRow, standIns := [], harness := (true, "e9c27eb4a770361095902e0ff07b7d1811f55cd5bb4da066faa199bb90a27930"), looks := false }, kinds := [], alts := [], laidByText := true, laidKinds := [.widerDeep], laidTests := true, laidLooks := .later }
def FnExactBlkFindUptoCardSaid : Prop := Claim7.holds Tryd.pinned (.plain (OpenSpec.upto fnExactBlkFindSpec)) fnExactBlkFindUptoCard

/-- THE SECOND FORM's CARD OF 'laws.FnExactBlkLower'. -/
def fnExactBlkLowerUptoCard : Claim7 := { stood := { row := fnExactBlkLowerUptoRow, standIns := [], harness := (true, "e9c27eb4a770361095902e0ff07b7d1811f55cd5bb4da066faa199bb90a27930"), looks := false }, kinds := [], alts := [], laidByText := true, laidKinds := [.widerDeep], laidTests := true, laidLooks := .later }
def FnExactBlkLowerUptoCardSaid : Prop := Claim7.holds Tryd.pinned (.plain (OpenSpec.upto fnExactBlkLowerSpec)) fnExactBlkLowerUptoCard

/-- THE SECOND FORM's CARD OF 'laws.FnBlkFind'. -/
def fnBlkFindUptoCard : Claim7 := { stood := { row := fnBlkFindUptoRow, standIns := [], harness := (true, "e9c27eb4a770361095902e0ff07b7d1811f55cd5bb4da066faa199bb90a27930"), looks := false }, kinds := [], alts := [], laidByText := true, laidKinds := [.widerDeep], laidTests := true, laidLooks := .later }
def FnBlkFindUptoCardSaid : Prop := Claim7.holds Tryd.pinned (.plain (OpenSpec.upto fnBlkFindSpec)) fnBlkFindUptoCard
end Rows
end Go.Proofs.YtokibcicoomceaaDoor
