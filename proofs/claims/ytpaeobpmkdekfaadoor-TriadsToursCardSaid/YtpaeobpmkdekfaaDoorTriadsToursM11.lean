/- Texts that the proof of TriadsTours needs, put together in build order by this session's program (wip/tools/claimtrim.py). -/
import Derived.Test.YtpaeobpmkdekfaaDoorTriadsToursM5
import Derived.Test.YtpaeobpmkdekfaaDoorTriadsToursM7
import Derived.Test.YtpaeobpmkdekfaaDoorTriadsToursM6
import Derived.Test.YtpaeobpmkdekfaaDoorTriadsToursM10
import Derived.LoopIn
import Derived.LoopNIn
import Derived.OwnWalkIn
import Derived.RangeFuncBox
import Derived.Shelf.Abstract
import Derived.Shelf.AbstractIn
import Derived.Shelf.RegionOpen
import Derived.Sort.BigQuietIn
import Derived.Sort.QuietIn
import Derived.TacticsInMore
import Derived.WalkKit
section
namespace Go.Proofs.YtpaeobpmkdekfaaDoor.P
open Go.RowKit Go.Proofs.YtpaeobpmkdekfaaDoorW.PrintWords Go.Proofs.YtpaeobpmkdekfaaDoorW.PrintLast Go.Proofs.YtpaeobpmkdekfaaDoorW.PrintMore
attribute [local go_sem] max2_int min2_int max_two min_two max_three min_three max_four min_four   -- for this text's walks alone
set_option linter.unusedVariables false
set_option linter.unusedSimpArgs false
end Go.Proofs.YtpaeobpmkdekfaaDoor.P
end

section
namespace Go.Proofs.YtpaeobpmkdekfaaDoor.P
open Go.RowKit Go.Proofs.YtpaeobpmkdekfaaDoorW.PrintWords Go.Proofs.YtpaeobpmkdekfaaDoorW.PrintLast Go.Proofs.YtpaeobpmkdekfaaDoorW.PrintMore
attribute [local go_sem] max2_int min2_int max_two min_two max_three min_three max_four min_four   -- for this text's walks alone
set_option linter.unusedVariables false
set_option linter.unusedSimpArgs false
end Go.Proofs.YtpaeobpmkdekfaaDoor.P
end
