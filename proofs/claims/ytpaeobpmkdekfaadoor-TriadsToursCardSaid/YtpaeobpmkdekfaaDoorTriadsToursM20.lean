/- Texts that the proof of TriadsTours needs, put together in build order by this session's program (wip/tools/claimtrim.py). -/
import Derived.Test.YtpaeobpmkdekfaaDoorTriadsToursM17
import Derived.Test.YtpaeobpmkdekfaaDoorTriadsToursM7
import Derived.Test.YtpaeobpmkdekfaaDoorTriadsToursM5
import Derived.Test.YtpaeobpmkdekfaaDoorTriadsToursM19
section
namespace Go.Proofs.YtpaeobpmkdekfaaDoor.Pure
open Go.RowKit Go.Proofs.YtpaeobpmkdekfaaDoor.P Go.Proofs.YtpaeobpmkdekfaaDoor.Base Go.Proofs.YtpaeobpmkdekfaaDoor.Kit Go.Proofs.YtpaeobpmkdekfaaDoorW.PrintWords Go.Proofs.YtpaeobpmkdekfaaDoorW.PrintLast Go.Proofs.YtpaeobpmkdekfaaDoor.Tri
theorem tours_j0 {n a b : Int} (hk : isKind n a b = true) (x : ByteArray) (hx : x.size < 9223372036854775808) (ok : Bool) (e : Int) (h : (ok, e) = if isWalkB x = true then (tourV n a b x.data.toList, 0) else (false, 3)) : Ev (fun k => P.sackbutlaw04_TriadsTours.j0 k x ok e n a b) true := by
  refine Ev.step (f := fun k => (sackbutref04_IsWalk.f k x).bind fun t273 => (if t273 = true then ((sackbutref04_Tour.f k n a b x).bind fun t274 => (if (ok == t274) = true then (if e = 0 then ((sackbutlaw04_awake.f).bind fun t275 => (some t275)) else (some false)) else (some false))) else (if ok = true then (some false) else (if e = 3 then ((sackbutlaw04_awake.f).bind fun t276 => (some t276)) else (some false))))) (fun k => ?_) (Ev.bind (rIsWalk_f x hx) ?_)
  · simp only [P.sackbutlaw04_TriadsTours.j0]
  · cases hw : isWalkB x with
    | false =>
      rw [hw] at h
      obtain ⟨rfl, rfl⟩ : ok = false ∧ e = 3 := by simpa using h
      simp only [Bool.false_eq_true, if_false, if_true, awake_f, Option.bind_some]
      exact Ev.now _
    | true =>
      rw [hw] at h
      obtain ⟨rfl, rfl⟩ : ok = tourV n a b x.data.toList ∧ e = 0 := by simpa using h
      simp only [if_true]
      refine Ev.bind (rTour_f hk x) ?_
      simp only [beq_self_eq_true, if_true, awake_f, Option.bind_some]
      exact Ev.now _
theorem TriadsTours (a0 a1 a2 : Int) (b1 : ByteArray) (w0 : (Lit.int .i64 a0).wf = true) (w1 : (Lit.int .i64 a1).wf = true) (w2 : (Lit.int .i64 a2).wf = true) (wb1 : b1.size ≤ maxLen) : ∃ k, P.sackbutlaw04_TriadsTours.f k a0 a1 a2 b1 = some true := by
  have hn := int64_of w0
  have ha := int64_of w1
  have hb := int64_of w2
  have hs1 : b1.size < 9223372036854775808 := by unfold maxLen at wb1; omega
  obtain ⟨t1, ht1, hsame1, hw1⟩ := text_f b1
  have hT := Tour_f a0 a1 a2 t1 hn ha hb
  rw [hw1] at hT
  refine Ev.rounds ?_
  unfold P.sackbutlaw04_TriadsTours.f
  simp only [sackbutlaw04_Of.f, Option.bind_some, ht1, tours_f a0 a1 a2 hn ha hb, rValid_f a0 a1 a2 hn ha hb]
  refine Ev.bind hT ?_
  cases hk : isKind a0 a1 a2 with
  | false =>
    simp only [Bool.false_eq_true, if_false, if_true, false_and, awake_f, Option.bind_some]
    have e0 : (⟨#[]⟩ : ByteArray).toList = [] := by rw [ByteArray.toList_eq]
    simp only [e0, if_true]
    exact Ev.now _
  | true =>
    have hj : Ev (fun k => P.sackbutlaw04_TriadsTours.j0 k b1 (if isWalkB b1 = true then (tourV a0 a1 a2 t1.data.toList, (0 : Int)) else (false, 3)).1 (if isWalkB b1 = true then (tourV a0 a1 a2 t1.data.toList, (0 : Int)) else (false, 3)).2 a0 a1 a2) true := by
      refine tours_j0 hk b1 hs1 _ _ ?_
      cases hw : isWalkB b1 with
      | false => rfl
      | true => rw [hsame1 hw]
    by_cases h12 : a0 ≤ 12
    · have hgt : ¬ a0 > 12 := by omega
      simp only [if_true, hgt, if_false, h12, true_and]
      refine Ev.bind (rTours_f hk) ?_
      simp only [if_true]
      exact hj
    · have hgt : a0 > 12 := by omega
      have e0 : (⟨#[]⟩ : ByteArray).toList = [] := by rw [ByteArray.toList_eq]
      simp only [if_true, hgt, h12, and_false, if_false, e0]
      exact hj
end Go.Proofs.YtpaeobpmkdekfaaDoor.Pure
end
