/- The pure statement of SorterNil. -/
import Derived.Test.YtebofnoljebakaaGreatDoorPXx
namespace Go.Proofs.YtebofnoljebakaaGreatDoor.Pure
open Go.RowKit Go.Proofs.YtebofnoljebakaaGreatDoor.PX Go.Proofs.YtebofnoljebakaaGreatDoorW.PrintWords
theorem SorterNil : w19_SorterNil.Pure := by
 intro x hx
 rfl
end Go.Proofs.YtebofnoljebakaaGreatDoor.Pure
