/-
  DERIVED. GIVEN WITH THE SEED: THE CARDS: each row of YtejmgcfjpofniaaGreatDoorRows.lean that lists a variable, with what it lists TIED to the program's text (the seventh form; the later family's looks); each row that meets fmt, with fmt's text TOLD by the authors' own Lean function (tested against real Go, not proved from fmt's source: count such statements apart). THE CARD IS WHAT COUNTS. Prove the row's statement (the work); the ties are given (YtejmgcfjpofniaaGreatDoorTie.lean); close each card by the builder's one call (the guide's Derived/Test/ToyasCard.lean, 'card_holds'). Laid BY PROGRAM, IN A SANDBOX (cutbox-door.mjs). By AI agents, Wed Nov 11 2026. No macro, syntax, notation, axiom, sorry.
-/
import Derived.Test.YtejmgcfjpofniaaGreatDoorRows
import GoSem.ClaimSeven
namespace Go.Proofs.YtejmgcfjpofniaaGreatDoor
namespace Rows

/-- THE TIED CARD OF 'threshinglaw15.CheckWants'. -/
def checkWantsCard : Claim7 := { stood := { row := checkWantsRow, standIns := [], harness := (true, "8ec64d6371e65cfb926d0fbc4f5613c2ef732864004cea22093210502412f6fd"), looks := true }, kinds := [], alts := [], laidByText := true, laidKinds := [.data, .data, .data, .data, .sentinel, .sentinel, .pinned], laidTests := true, laidLooks := .later }
def CheckWantsCardSaid : Prop := Claim7.holds Tryz.pinned (.plain (OpenSpec.ofChange checkWantsSpec)) checkWantsCard

/-- THE TIED CARD OF 'threshinglaw15.CheckStacks'. -/
def checkStacksCard : Claim7 := { stood := { row := checkStacksRow, standIns := [], harness := (true, "8ec64d6371e65cfb926d0fbc4f5613c2ef732864004cea22093210502412f6fd"), looks := true }, kinds := [], alts := [], laidByText := true, laidKinds := [.data, .data, .data, .data, .sentinel, .sentinel, .pinned], laidTests := true, laidLooks := .later }
def CheckStacksCardSaid : Prop := Claim7.holds Tryz.pinned (.plain (OpenSpec.ofChange checkStacksSpec)) checkStacksCard

/-- THE TIED CARD OF 'threshinglaw16.EvalTotal'. -/
def evalTotalCard : Claim7 := { stood := { row := evalTotalRow, standIns := [], harness := (true, "8ec64d6371e65cfb926d0fbc4f5613c2ef732864004cea22093210502412f6fd"), looks := true }, kinds := [], alts := [], laidByText := true, laidKinds := [.data, .data, .data, .data, .sentinel, .sentinel, .pinned], laidTests := true, laidLooks := .later }
def EvalTotalCardSaid : Prop := Claim7.holds Tryz.pinned (.plain (OpenSpec.ofChange evalTotalSpec)) evalTotalCard

/-- THE TIED CARD OF 'threshinglaw16.EvalNeeds'. -/
def evalNeedsCard : Claim7 := { stood := { row := evalNeedsRow, standIns := [], harness := (true, "8ec64d6371e65cfb926d0fbc4f5613c2ef732864004cea22093210502412f6fd"), looks := true }, kinds := [], alts := [], laidByText := true, laidKinds := [.data, .data, .data, .data, .sentinel, .sentinel, .pinned], laidTests := true, laidLooks := .later }
def EvalNeedsCardSaid : Prop := Claim7.holds Tryz.pinned (.plain (OpenSpec.ofChange evalNeedsSpec)) evalNeedsCard

/-- THE TIED CARD OF 'threshinglaw16.EvalRuns'. -/
def evalRunsCard : Claim7 := { stood := { row := evalRunsRow, standIns := [], harness := (true, "8ec64d6371e65cfb926d0fbc4f5613c2ef732864004cea22093210502412f6fd"), looks := true }, kinds := [], alts := [], laidByText := true, laidKinds := [.data, .data, .data, .data, .sentinel, .sentinel, .pinned], laidTests := true, laidLooks := .later }
def EvalRunsCardSaid : Prop := Claim7.holds Tryz.pinned (.plain (OpenSpec.ofChange evalRunsSpec)) evalRunsCard

/-- THE TIED CARD OF 'threshinglaw16.EvalFolds'. -/
def evalFoldsCard : Claim7 := { stood := { row := evalFoldsRow, standIns := [], harness := (true, "8ec64d6371e65cfb926d0fbc4f5613c2ef732864004cea22093210502412f6fd"), looks := true }, kinds := [], alts := [], laidByText := true, laidKinds := [.data, .data, .data, .data, .sentinel, .sentinel, .pinned], laidTests := true, laidLooks := .later }
def EvalFoldsCardSaid : Prop := Claim7.holds Tryz.pinned (.plain (OpenSpec.ofChange evalFoldsSpec)) evalFoldsCard

/-- THE SECOND FORM's CARD OF 'threshinglaw15.CheckWants'. -/
def checkWantsUptoCard : Claim7 := { stood := { row := checkWantsUptoRow, standIns := [], harness := (true, "8ec64d6371e65cfb926d0fbc4f5613c2ef732864004cea22093210502412f6fd"), looks := true }, kinds := [], alts := [], laidByText := true, laidKinds := [.data, .data, .data, .data, .sentinel, .sentinel, .pinned], laidTests := true, laidLooks := .later }
def CheckWantsUptoCardSaid : Prop := Claim7.holds Tryz.pinned (.plain (OpenSpec.upto checkWantsSpec)) checkWantsUptoCard

/-- THE SECOND FORM's CARD OF 'threshinglaw15.CheckStacks'. -/
def checkStacksUptoCard : Claim7 := { stood := { row := checkStacksUptoRow, standIns := [], harness := (true, "8ec64d6371e65cfb926d0fbc4f5613c2ef732864004cea22093210502412f6fd"), looks := true }, kinds := [], alts := [], laidByText := true, laidKinds := [.data, .data, .data, .data, .sentinel, .sentinel, .pinned], laidTests := true, laidLooks := .later }
def CheckStacksUptoCardSaid : Prop := Claim7.holds Tryz.pinned (.plain (OpenSpec.upto checkStacksSpec)) checkStacksUptoCard

/-- THE SECOND FORM's CARD OF 'threshinglaw16.EvalTotal'. -/
def evalTotalUptoCard : Claim7 := { stood := { row := evalTotalUptoRow, standIns := [], harness := (true, "8ec64d6371e65cfb926d0fbc4f5613c2ef732864004cea22093210502412f6fd"), looks := true }, kinds := [], alts := [], laidByText := true, laidKinds := [.data, .data, .data, .data, .sentinel, .sentinel, .pinned], laidTests := true, laidLooks := .later }
def EvalTotalUptoCardSaid : Prop := Claim7.holds Tryz.pinned (.plain (OpenSpec.upto evalTotalSpec)) evalTotalUptoCard

/-- THE SECOND FORM's CARD OF 'threshinglaw16.EvalNeeds'. -/
def evalNeedsUptoCard : Claim7 := { stood := { row := evalNeedsUptoRow, standIns := [], harness := (true, "8ec64d6371e65cfb926d0fbc4f5613c2ef732864004cea22093210502412f6fd"), looks := true }, kinds := [], alts := [], laidByText := true, laidKinds := [.data, .data, .data, .data, .sentinel, .sentinel, .pinned], laidTests := true, laidLooks := .later }
def EvalNeedsUptoCardSaid : Prop := Claim7.holds Tryz.pinned (.plain (OpenSpec.upto evalNeedsSpec)) evalNeedsUptoCard

/-- THE SECOND FORM's CARD OF 'threshinglaw16.EvalRuns'. -/
def evalRunsUptoCard : Claim7 := { stood := { row := evalRunsUptoRow, standIns := [], harness := (true, "8ec64d6371e65cfb926d0fbc4f5613c2ef732864004cea22093210502412f6fd"), looks := true }, kinds := [], alts := [], laidByText := true, laidKinds := [.data, .data, .data, .data, .sentinel, .sentinel, .pinned], laidTests := true, laidLooks := .later }
def EvalRunsUptoCardSaid : Prop := Claim7.holds Tryz.pinned (.plain (OpenSpec.upto evalRunsSpec)) evalRunsUptoCard

/-- THE SECOND FORM's CARD OF 'threshinglaw16.EvalFolds'. -/
def evalFoldsUptoCard : Claim7 := { stood := { row := evalFoldsUptoRow, standIns := [], harness := (true, "8ec64d6371e65cfb926d0fbc4f5613c2ef732864004cea22093210502412f6fd"), looks := true }, kinds := [], alts := [], laidByText := true, laidKinds := [.data, .data, .data, .data, .sentinel, .sentinel, .pinned], laidTests := true, laidLooks := .later }
def EvalFoldsUptoCardSaid : Prop := Claim7.holds Tryz.pinned (.plain (OpenSpec.upto evalFoldsSpec)) evalFoldsUptoCard
end Rows
end Go.Proofs.YtejmgcfjpofniaaGreatDoor
