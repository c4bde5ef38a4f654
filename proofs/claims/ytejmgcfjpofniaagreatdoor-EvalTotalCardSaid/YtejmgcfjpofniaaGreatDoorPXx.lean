/- Walked functions, by this session's program over the kit's print. -/
import Derived.Test.YtejmgcfjpofniaaGreatDoorPXx0
import Derived.Test.YtejmgcfjpofniaaGreatDoorPXx14
import Derived.Test.YtejmgcfjpofniaaGreatDoorPXx2
import Derived.Test.YtejmgcfjpofniaaGreatDoorPXx5
import Derived.Test.YtejmgcfjpofniaaGreatDoorPXx6
import Derived.Test.YtejmgcfjpofniaaGreatDoorPXx7
import Derived.Test.YtejmgcfjpofniaaGreatDoorPXx8
import Derived.Test.YtejmgcfjpofniaaGreatDoorPXx9
import Derived.Test.YtejmgcfjpofniaaGreatDoorPXx10
import Derived.Test.YtejmgcfjpofniaaGreatDoorPXx11
import Derived.Test.YtejmgcfjpofniaaGreatDoorPXx12
import Derived.Test.YtejmgcfjpofniaaGreatDoorPXx13
import Derived.Test.YtejmgcfjpofniaaGreatDoorPXx15
import Derived.Test.YtejmgcfjpofniaaGreatDoorPXx16
namespace Go.Proofs.YtejmgcfjpofniaaGreatDoor.PX
open Go.RowKit Go.Proofs.YtejmgcfjpofniaaGreatDoorW.PrintWords Go.Proofs.YtejmgcfjpofniaaGreatDoorW.PrintLast Go.Proofs.YtejmgcfjpofniaaGreatDoorW.PrintMore
attribute [local go_sem] xm_gtr max2_int min2_int max_two min_two max_three min_three max_four min_four   -- for this text's walks alone
set_option linter.unusedVariables false
set_option linter.unusedSimpArgs false

end Go.Proofs.YtejmgcfjpofniaaGreatDoor.PX
