/-
  DERIVED. GIVEN WITH THE SEED: THE CARDS: each row of YtialoecplmnjfaaGreatDoorRows.lean that lists a variable, with what it lists TIED to the program's text (the seventh form; the later family's looks); each row that meets fmt, with fmt's text TOLD by the authors' own Lean function (tested against real Go, not proved from fmt's source: count such statements apart). THE CARD IS WHAT COUNTS. Prove the row's statement (the work); the ties are given (YtialoecplmnjfaaGreatDoorTie.lean); close each card by the builder's one call (the guide's Derived/Test/ToyasCard.lean, 'card_holds'). Laid BY PROGRAM, IN A SANDBOX (cutbox-door.mjs). By AI agents, Wed Nov 11 2026. No macro, syntax, notation, axiom, sorry.
-/
import Derived.Test.YtialoecplmnjfaaGreatDoorRows
import GoSem.ClaimSeven
namespace Go.Proofs.YtialoecplmnjfaaGreatDoor
namespace Rows

/-- THE TIED CARD OF 'threshinglaw18.MapperParts'. -/
def mapperPartsCard : Claim7 := { stood := { row := mapperPartsRow, standIns := [], harness := (true, "d92f57c41f5f68ff7ee8cdbcefcd0035839040867dbdfe787721f0552cc14bba"), looks := true }, kinds := [], alts := [], laidByText := true, laidKinds := [.data, .data, .data, .data, .sentinel, .sentinel, .pinned], laidTests := true, laidLooks := .later }
def MapperPartsCardSaid : Prop := Claim7.holds Tryz.pinned (.plain (OpenSpec.ofChange mapperPartsSpec)) mapperPartsCard

/-- THE TIED CARD OF 'threshinglaw18.MapperAll'. -/
def mapperAllCard : Claim7 := { stood := { row := mapperAllRow, standIns := [], harness := (true, "d92f57c41f5f68ff7ee8cdbcefcd0035839040867dbdfe787721f0552cc14bba"), looks := true }, kinds := [], alts := [], laidByText := true, laidKinds := [.data, .data, .data, .data, .sentinel, .sentinel, .pinned], laidTests := true, laidLooks := .later }
def MapperAllCardSaid : Prop := Claim7.holds Tryz.pinned (.plain (OpenSpec.ofChange mapperAllSpec)) mapperAllCard

/-- THE SECOND FORM's CARD OF 'threshinglaw18.MapperParts'. -/
def mapperPartsUptoCard : Claim7 := { stood := { row := mapperPartsUptoRow, standIns := [], harness := (true, "d92f57c41f5f68ff7ee8cdbcefcd0035839040867dbdfe787721f0552cc14bba"), looks := true }, kinds := [], alts := [], laidByText := true, laidKinds := [.data, .data, .data, .data, .sentinel, .sentinel, .pinned], laidTests := true, laidLooks := .later }
def MapperPartsUptoCardSaid : Prop := Claim7.holds Tryz.pinned (.plain (OpenSpec.upto mapperPartsSpec)) mapperPartsUptoCard

/-- THE SECOND FORM's CARD OF 'threshinglaw18.MapperAll'. -/
def mapperAllUptoCard : Claim7 := { stood := { row := mapperAllUptoRow, standIns := [], harness := (true, "d92f57c41f5f68ff7ee8cdbcefcd0035839040867dbdfe787721f0552cc14bba"), looks := true }, kinds := [], alts := [], laidByText := true, laidKinds := [.data, .data, .data, .data, .sentinel, .sentinel, .pinned], laidTests := true, laidLooks := .later }
def MapperAllUptoCardSaid : Prop := Claim7.holds Tryz.pinned (.plain (OpenSpec.upto mapperAllSpec)) mapperAllUptoCard
end Rows
end Go.Proofs.YtialoecplmnjfaaGreatDoor
