/- Texts that the proof of TriadsAlike needs, put together in build order by this session's program (wip/tools/claimtrim.py). -/
import Derived.Test.YtpaeobpmkdekfaaDoorTriadsAlikeM10
import Derived.Test.YtpaeobpmkdekfaaDoorTriadsAlikeM5
import Derived.Test.YtpaeobpmkdekfaaDoorTriadsAlikeM15
import Derived.Test.YtpaeobpmkdekfaaDoorTriadsAlikeM8
import Derived.Test.YtpaeobpmkdekfaaDoorTriadsAlikeM16
import Derived.Test.YtpaeobpmkdekfaaDoorTriadsAlikeM17
import Derived.Test.YtpaeobpmkdekfaaDoorTriadsAlikeM19
section
namespace Go.Proofs.YtpaeobpmkdekfaaDoor.Pure
set_option linter.unusedVariables false
open Go.RowKit Go.Proofs.YtpaeobpmkdekfaaDoor.P Go.Proofs.YtpaeobpmkdekfaaDoor.Base Go.Proofs.YtpaeobpmkdekfaaDoor.Kit Go.Proofs.YtpaeobpmkdekfaaDoorW.PrintWords Go.Proofs.YtpaeobpmkdekfaaDoorW.PrintLast Go.Proofs.YtpaeobpmkdekfaaDoor.Tri
theorem alike_j1 {n a b : Int} (hk : isKind n a b = true) (x y : ByteArray) (hx : isWalkB x = true) (hy : y.size < 9223372036854775808) (ok : Bool) (e : Int) (h : (ok, e) = if isWalkB y = true then (same n a b x.data.toList y.data.toList, 0) else (false, 3)) : Ev (fun k => P.sackbutlaw04_TriadsAlike.j1 k x y ok e false n a b) true := by
  have hxs := isWalk_size hx
  cases hw : isWalkB y with
  | false =>
    rw [hw] at h
    obtain ⟨rfl, rfl⟩ : ok = false ∧ e = 3 := by simpa using h
    refine Ev.step (f := fun k => (sackbutref04_IsWalk.f k y).bind fun t482 => (if t482 = true then ((sackbutref04_Alike.f k n a b x y).bind fun t483 => (if (false == t483) = true then (some ((3 : Int) == 0)) else (some false))) else (if false = true then (some false) else (some ((3 : Int) == 3))))) (fun k => ?_) (Ev.bind (rIsWalk_f y hy) ?_)
    · simp only [P.sackbutlaw04_TriadsAlike.j1]
      rw [if_neg (by decide)]
    · rw [hw]
      simp only [Bool.false_eq_true, if_false]
      exact Ev.now _
  | true =>
    rw [hw] at h
    obtain ⟨rfl, rfl⟩ : ok = same n a b x.data.toList y.data.toList ∧ e = 0 := by simpa using h
    refine Ev.step (f := fun k => (sackbutref04_IsWalk.f k y).bind fun t482 => (if t482 = true then ((sackbutref04_Alike.f k n a b x y).bind fun t483 => (if (same n a b x.data.toList y.data.toList == t483) = true then (some ((0 : Int) == 0)) else (some false))) else (if same n a b x.data.toList y.data.toList = true then (some false) else (some ((0 : Int) == 3))))) (fun k => ?_) (Ev.bind (rIsWalk_f y hy) ?_)
    · simp only [P.sackbutlaw04_TriadsAlike.j1]
      rw [if_neg (by decide)]
    · rw [hw]
      simp only [if_true]
      refine Ev.bind (rAlike_f hk x y (by omega) hy) ?_
      simp only [beq_self_eq_true, if_true]
      exact Ev.now _
theorem alike_j0 {n a b : Int} (hk : isKind n a b = true) (hn : Int64 n) (ha : Int64 a) (hb : Int64 b) (x y : ByteArray) (hx : x.size < 9223372036854775808) (hy : y.size < 9223372036854775808) (ok : Bool) (e k0 f : Int)
    (h : (ok, e) = if isWalkB x = true ∧ isWalkB y = true then (same n a b x.data.toList y.data.toList, 0) else (false, 3))
    (hf : isWalkB x = false → (k0, f) = (0, 3)) (ho : isWalkB x = true → ∃ m, IsOrd n a b x.data.toList m ∧ (k0, f) = ((m : Int), 0)) : Ev (fun k => P.sackbutlaw04_TriadsAlike.j0 k x y ok e k0 f false n a b) true := by
  cases hw : isWalkB x with
  | false =>
    rw [hw] at h
    obtain ⟨rfl, rfl⟩ : ok = false ∧ e = 3 := by simpa using h
    obtain ⟨rfl, rfl⟩ : k0 = 0 ∧ f = 3 := by simpa using hf hw
    refine Ev.step (f := fun k => (sackbutref04_IsWalk.f k x).bind fun t480 => (if t480 = true then ((sackbutref04_Order.f k n a b x).bind fun t481 => (if (0 : Int) = t481 then (P.sackbutlaw04_TriadsAlike.j1 k x y false 3 ((3 : Int) != 0) n a b) else (P.sackbutlaw04_TriadsAlike.j1 k x y false 3 true n a b))) else (if false = true then (some false) else (if (0 : Int) = 0 then (if (3 : Int) = 3 then (some ((3 : Int) == 3)) else (some false)) else (some false))))) (fun k => ?_) (Ev.bind (rIsWalk_f x hx) ?_)
    · simp only [P.sackbutlaw04_TriadsAlike.j0]
      rw [if_neg (by decide)]
    · rw [hw]
      simp only [Bool.false_eq_true, if_false, if_true]
      exact Ev.now _
  | true =>
    obtain ⟨m, hm, hkf⟩ := ho hw
    obtain ⟨rfl, rfl⟩ : k0 = (m : Int) ∧ f = 0 := by simpa using hkf
    have hj := alike_j1 hk x y hw hy ok e (by rw [h, hw]; simp)
    refine Ev.step (f := fun k => (sackbutref04_IsWalk.f k x).bind fun t480 => (if t480 = true then ((sackbutref04_Order.f k n a b x).bind fun t481 => (if (m : Int) = t481 then (P.sackbutlaw04_TriadsAlike.j1 k x y ok e ((0 : Int) != 0) n a b) else (P.sackbutlaw04_TriadsAlike.j1 k x y ok e true n a b))) else (if ok = true then (some false) else (if (m : Int) = 0 then (if e = 3 then (some ((0 : Int) == 3)) else (some false)) else (some false))))) (fun k => ?_) (Ev.bind (rIsWalk_f x hx) ?_)
    · simp only [P.sackbutlaw04_TriadsAlike.j0]
      rw [if_neg (by decide)]
    · rw [hw]
      simp only [if_true]
      refine Ev.bind (rOrder_f hk x (isWalk_size hw) m hm) ?_
      simp only [if_true]
      exact hj
theorem TriadsAlike (a0 a1 a2 : Int) (b1 b2 : ByteArray) (w0 : (Lit.int .i64 a0).wf = true) (w1 : (Lit.int .i64 a1).wf = true) (w2 : (Lit.int .i64 a2).wf = true) (wb1 : b1.size ≤ maxLen) (wb2 : b2.size ≤ maxLen) : ∃ k, P.sackbutlaw04_TriadsAlike.f k a0 a1 a2 b1 b2 = some true := by
  have hn := int64_of w0
  have ha := int64_of w1
  have hb := int64_of w2
  have hs1 : b1.size < 9223372036854775808 := by unfold maxLen at wb1; omega
  have hs2 : b2.size < 9223372036854775808 := by unfold maxLen at wb2; omega
  obtain ⟨t1, ht1, hsame1, hw1⟩ := text_f b1
  obtain ⟨t2, ht2, hsame2, hw2⟩ := text_f b2
  refine Ev.rounds ?_
  unfold P.sackbutlaw04_TriadsAlike.f
  simp only [sackbutlaw04_Of.f, Option.bind_some, ht1, ht2, Alike_f a0 a1 a2 t1 t2 hn ha hb, size_f a0 a1 a2 hn ha hb, rValid_f a0 a1 a2 hn ha hb]
  cases hk : isKind a0 a1 a2 with
  | false =>
    have hO := Order_not (n := a0) (a := a1) (b := a2) t1 (by rw [hk]; rfl) hn ha hb
    rw [hk] at hO
    refine Ev.bind hO ?_
    simp only [Bool.false_eq_true, if_false, if_true, awake_f, Option.bind_some]
    exact Ev.now _
  | true =>
    simp only [if_true]
    obtain ⟨m, hm⟩ := ord_ex hk t1.data.toList
    have hO : Ev (fun k => triads_Order.f k a0 a1 a2 t1) (if isWalkB b1 = true then ((m : Int), 0) else (0, 3)) := by
      cases hw : isWalkB b1 with
      | true =>
        simp only [if_true]
        exact Order_f hk t1 (by rw [hw1, hw]) hn ha hb m hm
      | false =>
        have := Order_not (n := a0) (a := a1) (b := a2) t1 (by rw [hk, hw1, hw]; rfl) hn ha hb
        rw [hk] at this
        simpa using this
    refine Ev.bind hO ?_
    refine Ev.bind (rSize_f hk) ?_
    simp only [if_true, awake_f, Option.bind_some, Bool.not_true]
    refine alike_j0 hk hn ha hb b1 b2 hs1 hs2 _ _ _ _ ?_ ?_ ?_
    · rw [hw1, hw2]
      by_cases h : isWalkB b1 = true ∧ isWalkB b2 = true
      · rw [if_pos h, if_pos h, hsame1 h.1, hsame2 h.2]
      · rw [if_neg h, if_neg h]
    · intro h
      rw [h]
      rfl
    · intro h
      rw [h]
      exact ⟨m, by rw [← hsame1 h]; exact hm, rfl⟩
end Go.Proofs.YtpaeobpmkdekfaaDoor.Pure
end
