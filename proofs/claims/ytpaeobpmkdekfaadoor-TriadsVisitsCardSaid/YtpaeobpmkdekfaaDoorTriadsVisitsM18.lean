/- Texts that the proof of TriadsVisits needs, put together in build order by this session's program (wip/tools/claimtrim.py). -/
import Derived.Test.YtpaeobpmkdekfaaDoorTriadsVisitsM5
import Derived.Test.YtpaeobpmkdekfaaDoorTriadsVisitsM7
import Derived.Test.YtpaeobpmkdekfaaDoorTriadsVisitsM14
import Derived.Test.YtpaeobpmkdekfaaDoorTriadsVisitsM6
import Derived.Test.YtpaeobpmkdekfaaDoorTriadsVisitsM10
import Derived.Test.YtpaeobpmkdekfaaDoorTriadsVisitsM17
import Derived.Laws.RangeString
section
namespace Go.Proofs.YtpaeobpmkdekfaaDoor.Base
open Go.RowKit Go.Proofs.YtpaeobpmkdekfaaDoor.P Go.Proofs.YtpaeobpmkdekfaaDoor.Kit Go.Proofs.YtpaeobpmkdekfaaDoorW.PrintWords Go.Proofs.YtpaeobpmkdekfaaDoorW.PrintLast Go.Proofs.YtpaeobpmkdekfaaDoor.Tri
/-- A byte of a string. -/
def at_ (s : ByteArray) (i : Nat) : UInt8 := s.data.toList.getD i 0
theorem bt_at (s : ByteArray) (i : Nat) (h : i < s.size) : bt s (i : Int) = ((at_ s i).toNat : Int) := bt_nat s i (by rw [data_length]; exact h)
theorem step_mem {c : UInt8} (h : stepByte c = true) : c ∈ ([76, 80, 82] : List UInt8) := by
  revert h
  unfold stepByte
  simp only [Bool.or_eq_true, beq_iff_eq, List.mem_cons, List.not_mem_nil, or_false]
  rintro ((h | h) | h)
  · exact .inr (.inl h)
  · exact .inl h
  · exact .inr (.inr h)
end Go.Proofs.YtpaeobpmkdekfaaDoor.Base
end
