/- Walked functions, by this session's program over the kit's print. -/
import Derived.Test.YtebofnoljebakaaGreatDoorPXx0
import Derived.Test.YtebofnoljebakaaGreatDoorPXx21
import Derived.Test.YtebofnoljebakaaGreatDoorPXx2
import Derived.Test.YtebofnoljebakaaGreatDoorPXx3
import Derived.Test.YtebofnoljebakaaGreatDoorPXx4
import Derived.Test.YtebofnoljebakaaGreatDoorPXx6
import Derived.Test.YtebofnoljebakaaGreatDoorPXx8
import Derived.Test.YtebofnoljebakaaGreatDoorPXx10
import Derived.Test.YtebofnoljebakaaGreatDoorPXx12
import Derived.Test.YtebofnoljebakaaGreatDoorPXx16
import Derived.Test.YtebofnoljebakaaGreatDoorPXx17
import Derived.Test.YtebofnoljebakaaGreatDoorPXx18
namespace Go.Proofs.YtebofnoljebakaaGreatDoor.PX
open Go.RowKit Go.Proofs.YtebofnoljebakaaGreatDoorW.PrintWords Go.Proofs.YtebofnoljebakaaGreatDoorW.PrintLast Go.Proofs.YtebofnoljebakaaGreatDoorW.PrintMore
attribute [local go_sem] xm_gtr max2_int min2_int max_two min_two max_three min_three max_four min_four   -- for this text's walks alone
set_option linter.unusedVariables false
set_option linter.unusedSimpArgs false
end Go.Proofs.YtebofnoljebakaaGreatDoor.PX
