/- Walked functions, by this session's program over the kit's print. -/
import Derived.Test.YtmkkbkbfhjndcaaDoorPXx0
import Derived.Test.YtmkkbkbfhjndcaaDoorPXx1
import Derived.Test.YtmkkbkbfhjndcaaDoorPXx2
import Derived.Test.YtmkkbkbfhjndcaaDoorPXx3
import Derived.Test.YtmkkbkbfhjndcaaDoorPXx4
import Derived.Test.YtmkkbkbfhjndcaaDoorPXx5
import Derived.Test.YtmkkbkbfhjndcaaDoorPXx6
import Derived.Test.YtmkkbkbfhjndcaaDoorPXx7
namespace Go.Proofs.YtmkkbkbfhjndcaaDoor.PX
open Go.RowKit Go.Proofs.YtmkkbkbfhjndcaaDoorW.PrintWords Go.Proofs.YtmkkbkbfhjndcaaDoorW.PrintLast Go.Proofs.YtmkkbkbfhjndcaaDoorW.PrintMore
attribute [local go_sem] xm_gtr max2_int min2_int max_two min_two max_three min_three max_four min_four   -- for this text's walks alone
set_option linter.unusedVariables false
set_option linter.unusedSimpArgs false

end Go.Proofs.YtmkkbkbfhjndcaaDoor.PX
