/- Texts that the proof of TriadsRounds needs, put together in build order by this session's program (wip/tools/claimtrim.py). -/
import Derived.Test.YtpaeobpmkdekfaaDoorTriadsRoundsM1
import Derived.Laws.StructEq
