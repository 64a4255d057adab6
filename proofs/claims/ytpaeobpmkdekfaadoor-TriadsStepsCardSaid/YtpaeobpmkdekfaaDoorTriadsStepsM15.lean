/- Texts that the proof of TriadsSteps needs, put together in build order by this session's program (wip/tools/claimtrim.py). -/
import Derived.Test.YtpaeobpmkdekfaaDoorTriadsStepsM5
import Derived.Test.YtpaeobpmkdekfaaDoorTriadsStepsM13
import Derived.Lib.SlBytesConst
section
namespace Go.Proofs.YtpaeobpmkdekfaaDoor.P
open Go.RowKit Go.Proofs.YtpaeobpmkdekfaaDoorW.PrintWords Go.Proofs.YtpaeobpmkdekfaaDoorW.PrintLast Go.Proofs.YtpaeobpmkdekfaaDoorW.PrintMore
set_option linter.unusedVariables false
set_option linter.unusedSimpArgs false
section
open Go.Proofs.YtpaeobpmkdekfaaDoor.MapLaws Go.Proofs.YtpaeobpmkdekfaaDoor.Base
end
end Go.Proofs.YtpaeobpmkdekfaaDoor.P
end
