/- Walked functions, by this session's program over the kit's print. -/
import Derived.Test.YtpgddpkljbgjpaaGreatDoorPXx0
import Derived.Test.YtpgddpkljbgjpaaGreatDoorPXx1
import Derived.Test.YtpgddpkljbgjpaaGreatDoorPXx2
import Derived.Test.YtpgddpkljbgjpaaGreatDoorPXx3
import Derived.Test.YtpgddpkljbgjpaaGreatDoorPXx4
namespace Go.Proofs.YtpgddpkljbgjpaaGreatDoor.PX
open Go.RowKit Go.Proofs.YtpgddpkljbgjpaaGreatDoorW.PrintWords Go.Proofs.YtpgddpkljbgjpaaGreatDoorW.PrintLast Go.Proofs.YtpgddpkljbgjpaaGreatDoorW.PrintMore
attribute [local go_sem] xm_gtr max2_int min2_int max_two min_two max_three min_three max_four min_four   -- for this text's walks alone
set_option linter.unusedVariables false
set_option linter.unusedSimpArgs false

end Go.Proofs.YtpgddpkljbgjpaaGreatDoor.PX
