/- Texts that the proof of TriadsAlike needs, put together in build order by this session's program (wip/tools/claimtrim.py). -/
import Derived.Test.YtpaeobpmkdekfaaDoorTriadsAlikeM5
import Derived.Test.YtpaeobpmkdekfaaDoorTriadsAlikeM8
import Derived.Test.YtpaeobpmkdekfaaDoorTriadsAlikeM14
import Derived.Test.YtpaeobpmkdekfaaDoorTriadsAlikeM6
import Derived.Test.YtpaeobpmkdekfaaDoorTriadsAlikeM9
import Derived.Test.YtpaeobpmkdekfaaDoorTriadsAlikeM18
import Derived.Laws.RangeString
section
namespace Go.Proofs.YtpaeobpmkdekfaaDoor.P
open Go.RowKit Go.Proofs.YtpaeobpmkdekfaaDoorW.PrintWords Go.Proofs.YtpaeobpmkdekfaaDoorW.PrintLast Go.Proofs.YtpaeobpmkdekfaaDoorW.PrintMore
set_option linter.unusedVariables false
set_option linter.unusedSimpArgs false
section
open Go.Shelf Go.Proofs.YtpaeobpmkdekfaaDoor.MapLaws Go.Proofs.YtpaeobpmkdekfaaDoor.Base
end
end Go.Proofs.YtpaeobpmkdekfaaDoor.P
end

section
namespace Go.Proofs.YtpaeobpmkdekfaaDoor.P
open Go.RowKit Go.Proofs.YtpaeobpmkdekfaaDoorW.PrintWords Go.Proofs.YtpaeobpmkdekfaaDoorW.PrintLast Go.Proofs.YtpaeobpmkdekfaaDoorW.PrintMore
attribute [local go_sem] max2_int min2_int max_two min_two max_three min_three max_four min_four   -- for this text's walks alone
set_option linter.unusedVariables false
set_option linter.unusedSimpArgs false
end Go.Proofs.YtpaeobpmkdekfaaDoor.P
end

section
namespace Go.Proofs.YtpaeobpmkdekfaaDoor.Base
open Go.RowKit Go.Proofs.YtpaeobpmkdekfaaDoor.P Go.Proofs.YtpaeobpmkdekfaaDoor.Kit Go.Proofs.YtpaeobpmkdekfaaDoorW.PrintWords Go.Proofs.YtpaeobpmkdekfaaDoorW.PrintLast Go.Proofs.YtpaeobpmkdekfaaDoor.Tri
/-- A byte of a string. -/
def at_ (s : ByteArray) (i : Nat) : UInt8 := s.data.toList.getD i 0
theorem bt_at (s : ByteArray) (i : Nat) (h : i < s.size) : bt s (i : Int) = ((at_ s i).toNat : Int) := bt_nat s i (by rw [data_length]; exact h)
end Go.Proofs.YtpaeobpmkdekfaaDoor.Base
end
