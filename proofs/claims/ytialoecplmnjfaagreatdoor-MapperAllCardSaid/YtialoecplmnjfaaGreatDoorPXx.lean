/- Walked functions, by this session's program over the kit's print. -/
import Derived.Test.YtialoecplmnjfaaGreatDoorPXx0
import Derived.Test.YtialoecplmnjfaaGreatDoorPXx3
import Derived.Test.YtialoecplmnjfaaGreatDoorPXx2
import Derived.Test.YtialoecplmnjfaaGreatDoorPXx17
import Derived.Test.YtialoecplmnjfaaGreatDoorPXx6
import Derived.Test.YtialoecplmnjfaaGreatDoorPXx10
import Derived.Test.YtialoecplmnjfaaGreatDoorPXx11
import Derived.Test.YtialoecplmnjfaaGreatDoorPXx13
import Derived.Test.YtialoecplmnjfaaGreatDoorPXx15
import Derived.Test.YtialoecplmnjfaaGreatDoorPXx18
namespace Go.Proofs.YtialoecplmnjfaaGreatDoor.PX
open Go.RowKit Go.Proofs.YtialoecplmnjfaaGreatDoorW.PrintWords Go.Proofs.YtialoecplmnjfaaGreatDoorW.PrintLast Go.Proofs.YtialoecplmnjfaaGreatDoorW.PrintMore
attribute [local go_sem] xm_gtr max2_int min2_int max_two min_two max_three min_three max_four min_four   -- for this text's walks alone
set_option linter.unusedVariables false
set_option linter.unusedSimpArgs false
end Go.Proofs.YtialoecplmnjfaaGreatDoor.PX
