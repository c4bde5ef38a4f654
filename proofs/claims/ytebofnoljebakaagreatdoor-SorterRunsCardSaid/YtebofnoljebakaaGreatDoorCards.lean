/-
  DERIVED. GIVEN WITH THE SEED: THE CARDS: each row of YtebofnoljebakaaGreatDoorRows.lean that lists a variable, with what it lists TIED to the program's text (the seventh form; the later family's looks); each row that meets fmt, with fmt's text TOLD by the authors' own Lean function (tested against real Go, not proved from fmt's source: count such statements apart). THE CARD IS WHAT COUNTS. Prove the row's statement (the work); the ties are given (YtebofnoljebakaaGreatDoorTie.lean); close each card by the builder's one call (the guide's Derived/Test/ToyasCard.lean, 'card_holds'). Laid BY PROGRAM, IN A SANDBOX (cutbox-door.mjs). By AI agents, Wed Nov 11 2026. No macro, syntax, notation, axiom, sorry.
-/
import Derived.Test.YtebofnoljebakaaGreatDoorRows
import GoSem.ClaimSeven
namespace Go.Proofs.YtebofnoljebakaaGreatDoor
namespace Rows

/-- THE TIED CARD OF 'threshinglaw19.SorterOrder'. -/
def sorterOrderCard : Claim7 := { stood := { row := sorterOrderRow, standIns := [], harness := (true, "b244ded2f9641ee627c5169fcf799bb3085d56d0ebdcfb0407adaf1ccd8b94fa"), looks := true }, kinds := [], alts := [], laidByText := true, laidKinds := [.data, .data, .data, .data, .sentinel, .sentinel, .pinned], laidTests := true, laidLooks := .later }
def SorterOrderCardSaid : Prop := Claim7.holds Tryz.pinned (.plain (OpenSpec.ofChange sorterOrderSpec)) sorterOrderCard

/-- THE TIED CARD OF 'threshinglaw19.SorterSorts'. -/
def sorterSortsCard : Claim7 := { stood := { row := sorterSortsRow, standIns := [], harness := (true, "b244ded2f9641ee627c5169fcf799bb3085d56d0ebdcfb0407adaf1ccd8b94fa"), looks := true }, kinds := [], alts := [], laidByText := true, laidKinds := [.data, .data, .data, .data, .sentinel, .sentinel, .pinned], laidTests := true, laidLooks := .later }
def SorterSortsCardSaid : Prop := Claim7.holds Tryz.pinned (.plain (OpenSpec.ofChange sorterSortsSpec)) sorterSortsCard

/-- THE TIED CARD OF 'threshinglaw19.SorterNil'. -/
def sorterNilCard : Claim7 := { stood := { row := sorterNilRow, standIns := [], harness := (true, "b244ded2f9641ee627c5169fcf799bb3085d56d0ebdcfb0407adaf1ccd8b94fa"), looks := true }, kinds := [], alts := [], laidByText := true, laidKinds := [.data, .data, .data, .data, .sentinel, .sentinel, .pinned], laidTests := true, laidLooks := .later }
def SorterNilCardSaid : Prop := Claim7.holds Tryz.pinned (.plain (OpenSpec.ofChange sorterNilSpec)) sorterNilCard

/-- THE TIED CARD OF 'threshinglaw19.SorterRuns'. -/
def sorterRunsCard : Claim7 := { stood := { row := sorterRunsRow, standIns := [], harness := (true, "b244ded2f9641ee627c5169fcf799bb3085d56d0ebdcfb0407adaf1ccd8b94fa"), looks := true }, kinds := [], alts := [], laidByText := true, laidKinds := [.data, .data, .data, .data, .sentinel, .sentinel, .pinned], laidTests := true, laidLooks := .later }
def SorterRunsCardSaid : Prop := Claim7.holds Tryz.pinned (.plain (OpenSpec.ofChange sorterRunsSpec)) sorterRunsCard

/-- THE SECOND FORM's CARD OF 'threshinglaw19.SorterOrder'. -/
def sorterOrderUptoCard : Claim7 := { stood := { row := sorterOrderUptoRow, standIns := [], harness := (true, "b244ded2f9641ee627c5169fcf799bb3085d56d0ebdcfb0407adaf1ccd8b94fa"), looks := true }, kinds := [], alts := [], laidByText := true, laidKinds := [.data, .data, .data, .data, .sentinel, .sentinel, .pinned], laidTests := true, laidLooks := .later }
def SorterOrderUptoCardSaid : Prop := Claim7.holds Tryz.pinned (.plain (OpenSpec.upto sorterOrderSpec)) sorterOrderUptoCard

/-- THE SECOND FORM's CARD OF 'threshinglaw19.SorterSorts'. -/
def sorterSortsUptoCard : Claim7 := { stood := { row := sorterSortsUptoRow, standIns := [], harness := (true, "b244ded2f9641ee627c5169fcf799bb3085d56d0ebdcfb0407adaf1ccd8b94fa"), looks := true }, kinds := [], alts := [], laidByText := true, laidKinds := [.data, .data, .data, .data, .sentinel, .sentinel, .pinned], laidTests := true, laidLooks := .later }
def SorterSortsUptoCardSaid : Prop := Claim7.holds Tryz.pinned (.plain (OpenSpec.upto sorterSortsSpec)) sorterSortsUptoCard

/-- THE SECOND FORM's CARD OF 'threshinglaw19.SorterNil'. -/
def sorterNilUptoCard : Claim7 := { stood := { row := sorterNilUptoRow, standIns := [], harness := (true, "b244ded2f9641ee627c5169fcf799bb3085d56d0ebdcfb0407adaf1ccd8b94fa"), looks := true }, kinds := [], alts := [], laidByText := true, laidKinds := [.data, .data, .data, .data, .sentinel, .sentinel, .pinned], laidTests := true, laidLooks := .later }
def SorterNilUptoCardSaid : Prop := Claim7.holds Tryz.pinned (.plain (OpenSpec.upto sorterNilSpec)) sorterNilUptoCard

/-- THE SECOND FORM's CARD OF 'threshinglaw19.SorterRuns'. -/
def sorterRunsUptoCard : Claim7 := { stood := { row := sorterRunsUptoRow, standIns := [], harness := (true, "b244ded2f9641ee627c5169fcf799bb3085d56d0ebdcfb0407adaf1ccd8b94fa"), looks := true }, kinds := [], alts := [], laidByText := true, laidKinds := [.data, .data, .data, .data, .sentinel, .sentinel, .pinned], laidTests := true, laidLooks := .later }
def SorterRunsUptoCardSaid : Prop := Claim7.holds Tryz.pinned (.plain (OpenSpec.upto sorterRunsSpec)) sorterRunsUptoCard
end Rows
end Go.Proofs.YtebofnoljebakaaGreatDoor
