/- Texts that the proof of TriadsVisits needs, put together in build order by this session's program (wip/tools/claimtrim.py). -/
import Derived.Test.YtpaeobpmkdekfaaDoorTriadsVisitsM1
import Derived.Laws.StructEq
