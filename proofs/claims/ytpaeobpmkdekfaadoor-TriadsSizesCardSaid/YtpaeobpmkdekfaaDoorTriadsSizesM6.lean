/- Texts that the proof of TriadsSizes needs, put together in build order by this session's program (wip/tools/claimtrim.py). -/
import Derived.Test.YtpaeobpmkdekfaaDoorTriadsSizesM3
import Derived.Laws.StructEq
