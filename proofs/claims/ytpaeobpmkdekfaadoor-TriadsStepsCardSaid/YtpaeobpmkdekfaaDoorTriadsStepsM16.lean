/- Texts that the proof of TriadsSteps needs, put together in build order by this session's program (wip/tools/claimtrim.py). -/
import Derived.Test.YtpaeobpmkdekfaaDoorTriadsStepsM5
import Derived.Test.YtpaeobpmkdekfaaDoorTriadsStepsM15
import Derived.Outline
section
namespace Go.Proofs.YtpaeobpmkdekfaaDoor.P
open Go.RowKit Go.Proofs.YtpaeobpmkdekfaaDoorW.PrintWords Go.Proofs.YtpaeobpmkdekfaaDoorW.PrintLast Go.Proofs.YtpaeobpmkdekfaaDoorW.PrintMore
set_option linter.unusedVariables false
section
open Go.Proofs.YtpaeobpmkdekfaaDoor.MapLaws Go.Proofs.YtpaeobpmkdekfaaDoor.Base
/-- Those of the first triads. -/
def below (L : Bfs.Met Int) (i : Nat) : Bfs.Met Int := L.filter fun p => decide (p.1 < (i : Int))
end
end Go.Proofs.YtpaeobpmkdekfaaDoor.P
end
