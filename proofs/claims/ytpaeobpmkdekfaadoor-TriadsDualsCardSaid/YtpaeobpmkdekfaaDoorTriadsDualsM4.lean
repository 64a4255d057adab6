/- Texts that the proof of TriadsDuals needs, put together in build order by this session's program (wip/tools/claimtrim.py). -/
import Derived.Test.YtpaeobpmkdekfaaDoorTriadsDualsM1
import Derived.Laws.StructEq
