/- Walked functions, by this session's program over the kit's print. -/
import Derived.Test.YtnodgcakmolleaaGreatDoorPXx0
import Derived.Test.YtnodgcakmolleaaGreatDoorPXx1
import Derived.Test.YtnodgcakmolleaaGreatDoorPXx3
import Derived.Test.YtnodgcakmolleaaGreatDoorPXx4
import Derived.Test.YtnodgcakmolleaaGreatDoorPXx6
import Derived.Test.YtnodgcakmolleaaGreatDoorPXx7
import Derived.Test.YtnodgcakmolleaaGreatDoorPXx9
import Derived.Test.YtnodgcakmolleaaGreatDoorPXx11
import Derived.Test.YtnodgcakmolleaaGreatDoorPXx15
import Derived.Test.YtnodgcakmolleaaGreatDoorPXx18
import Derived.Test.YtnodgcakmolleaaGreatDoorPXx20
import Derived.Test.YtnodgcakmolleaaGreatDoorPXx21
import Derived.Test.YtnodgcakmolleaaGreatDoorPXx23
import Derived.Test.YtnodgcakmolleaaGreatDoorPXx25
namespace Go.Proofs.YtnodgcakmolleaaGreatDoor.PX
open Go.RowKit Go.Proofs.YtnodgcakmolleaaGreatDoorW.PrintWords Go.Proofs.YtnodgcakmolleaaGreatDoorW.PrintLast Go.Proofs.YtnodgcakmolleaaGreatDoorW.PrintMore
attribute [local go_sem] xm_gtr max2_int min2_int max_two min_two max_three min_three max_four min_four   -- for this text's walks alone
set_option linter.unusedVariables false
set_option linter.unusedSimpArgs false
end Go.Proofs.YtnodgcakmolleaaGreatDoor.PX
