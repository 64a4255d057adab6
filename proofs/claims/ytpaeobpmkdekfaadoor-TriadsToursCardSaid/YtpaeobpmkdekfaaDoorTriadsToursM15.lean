/- Texts that the proof of TriadsTours needs, put together in build order by this session's program (wip/tools/claimtrim.py). -/
import Derived.Test.YtpaeobpmkdekfaaDoorTriadsToursM7
import Derived.Test.YtpaeobpmkdekfaaDoorTriadsToursM11
import Derived.Test.YtpaeobpmkdekfaaDoorTriadsToursM14
section
namespace Go.Proofs.YtpaeobpmkdekfaaDoor.Base
open Go.RowKit Go.Proofs.YtpaeobpmkdekfaaDoor.P Go.Proofs.YtpaeobpmkdekfaaDoor.Kit Go.Proofs.YtpaeobpmkdekfaaDoorW.PrintWords Go.Proofs.YtpaeobpmkdekfaaDoorW.PrintLast Go.Proofs.YtpaeobpmkdekfaaDoor.Tri
theorem kind_pos' {n a b : Int} (hk : isKind n a b = true) : 0 < n := by
  have := (of_decide_eq_true hk).1
  omega
/-- A walk's text, cut where it is long, is the walk itself or none. -/
theorem text_f (s : ByteArray) : ∃ tx, sackbutlaw04_text.f s = some tx ∧ (isWalkB s = true → tx = s) ∧ isWalkB tx = isWalkB s := by
  by_cases h70 : s.size ≤ 70
  · exact ⟨s, text_short s h70, fun _ => rfl, rfl⟩
  · obtain ⟨x, h1, h2⟩ := text_long s (by omega)
    have f1 : isWalkB s = false := by unfold isWalkB; rw [decide_eq_false (by omega), Bool.false_and]
    have f2 : isWalkB x = false := by unfold isWalkB; rw [decide_eq_false (by omega), Bool.false_and]
    exact ⟨x, h1, (fun h => by rw [f1] at h; cases h), by rw [f1, f2]⟩
theorem isWalk_f (s : ByteArray) : triads_isWalk.f s = some (isWalkB s) := rfl
end Go.Proofs.YtpaeobpmkdekfaaDoor.Base
end
