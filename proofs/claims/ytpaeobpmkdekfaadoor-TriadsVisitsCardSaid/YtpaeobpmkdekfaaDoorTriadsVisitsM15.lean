/- Texts that the proof of TriadsVisits needs, put together in build order by this session's program (wip/tools/claimtrim.py). -/
import Derived.Test.YtpaeobpmkdekfaaDoorTriadsVisitsM7
import Derived.Test.YtpaeobpmkdekfaaDoorTriadsVisitsM11
import Derived.Test.YtpaeobpmkdekfaaDoorTriadsVisitsM14
section
namespace Go.Proofs.YtpaeobpmkdekfaaDoor.Base
open Go.RowKit Go.Proofs.YtpaeobpmkdekfaaDoor.P Go.Proofs.YtpaeobpmkdekfaaDoor.Kit Go.Proofs.YtpaeobpmkdekfaaDoorW.PrintWords Go.Proofs.YtpaeobpmkdekfaaDoorW.PrintLast Go.Proofs.YtpaeobpmkdekfaaDoor.Tri
theorem kind_pos' {n a b : Int} (hk : isKind n a b = true) : 0 < n := by
  have := (of_decide_eq_true hk).1
  omega
/-- A walk's text, cut where it is long, is the walk itself or none. -/
theorem text_f (s : ByteArray) : ∃ tx, sackbutlaw04_text.f s = some tx ∧ (isWalkB s = true → tx = s) ∧ isWalkB tx = isWalkB s := by
  by_cases h70 : s.size ≤ 70
  · exact ⟨s, text_short s h70, fun _ => rfl, rfl⟩
  · obtain ⟨x, h1, h2⟩ := text_long s (by omega)
    have f1 : isWalkB s = false := by unfold isWalkB; rw [decide_eq_false (by omega), Bool.false_and]
    have f2 : isWalkB x = false := by unfold isWalkB; rw [decide_eq_false (by omega), Bool.false_and]
    exact ⟨x, h1, (fun h => by rw [f1] at h; cases h), by rw [f1, f2]⟩
theorem isWalk_f (s : ByteArray) : triads_isWalk.f s = some (isWalkB s) := rfl
theorem isWalk_size {s : ByteArray} (h : isWalkB s = true) : s.size ≤ 60 := by
  unfold isWalkB at h
  rw [Bool.and_eq_true] at h
  exact of_decide_eq_true h.1
theorem rep_odd (a b : Int) (l : List UInt8) (h : odd l = true) : odd (Lib.repeatL l 2) = false ∧ alt a b (Lib.repeatL l 2) = 0 := by
  have e : Lib.repeatL l 2 = l ++ l := by
    show l ++ (l ++ []) = _
    rw [List.append_nil]
  rw [e, odd_append, alt_append, h, if_pos rfl]
  exact ⟨rfl, by omega⟩
theorem repeat_f (s : ByteArray) (hs : s.size ≤ 60) (k : Nat) (hk : k ≤ 32) : strings_Repeat.f s (k : Int) = some ⟨(Lib.repeatL s.data.toList k).toArray⟩ := by
  unfold strings_Repeat.f
  have h2 : s.size * k ≤ 60 * 32 := Nat.mul_le_mul hs hk
  rw [if_pos ⟨by omega, by omega, by rw [Int.toNat_natCast]; omega⟩, Int.toNat_natCast]
end Go.Proofs.YtpaeobpmkdekfaaDoor.Base
end
