/- Walked functions, by this session's program over the kit's print. -/
import Derived.Test.YtpgddpkljbgjpaaDoorPXx0
import Derived.Test.YtpgddpkljbgjpaaDoorPXx1
import Derived.Test.YtpgddpkljbgjpaaDoorPXx2
import Derived.Test.YtpgddpkljbgjpaaDoorPXx3
import Derived.Test.YtpgddpkljbgjpaaDoorPXx4
import Derived.Test.YtpgddpkljbgjpaaDoorPXx5
import Derived.Test.YtpgddpkljbgjpaaDoorPXx6
import Derived.Test.YtpgddpkljbgjpaaDoorPXx7
import Derived.Test.YtpgddpkljbgjpaaDoorPXx8
namespace Go.Proofs.YtpgddpkljbgjpaaDoor.PX
open Go.RowKit Go.Proofs.YtpgddpkljbgjpaaDoorW.PrintWords Go.Proofs.YtpgddpkljbgjpaaDoorW.PrintLast Go.Proofs.YtpgddpkljbgjpaaDoorW.PrintMore
attribute [local go_sem] xm_gtr max2_int min2_int max_two min_two max_three min_three max_four min_four   -- for this text's walks alone
set_option linter.unusedVariables false
set_option linter.unusedSimpArgs false

end Go.Proofs.YtpgddpkljbgjpaaDoor.PX
