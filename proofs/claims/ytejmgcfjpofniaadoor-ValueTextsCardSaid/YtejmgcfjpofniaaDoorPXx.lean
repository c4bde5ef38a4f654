/- Walked functions, by this session's program over the kit's print. -/
import Derived.Test.YtejmgcfjpofniaaDoorPXx0
import Derived.Test.YtejmgcfjpofniaaDoorPXx1
import Derived.Test.YtejmgcfjpofniaaDoorPXx2
import Derived.Test.YtejmgcfjpofniaaDoorPXx3
import Derived.Test.YtejmgcfjpofniaaDoorPXx4
import Derived.Test.YtejmgcfjpofniaaDoorPXx5
import Derived.Test.YtejmgcfjpofniaaDoorPXx6
import Derived.Test.YtejmgcfjpofniaaDoorPXx7
namespace Go.Proofs.YtejmgcfjpofniaaDoor.PX
open Go.RowKit Go.Proofs.YtejmgcfjpofniaaDoorW.PrintWords Go.Proofs.YtejmgcfjpofniaaDoorW.PrintLast Go.Proofs.YtejmgcfjpofniaaDoorW.PrintMore
attribute [local go_sem] xm_gtr max2_int min2_int max_two min_two max_three min_three max_four min_four   -- for this text's walks alone
set_option linter.unusedVariables false
set_option linter.unusedSimpArgs false

end Go.Proofs.YtejmgcfjpofniaaDoor.PX
