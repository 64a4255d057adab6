/- TriadsShifts: for every input, Shift of the program returns the triad that the reference's shift leads to, or the documented error. Conditions: none. -/
import Derived.Test.YtpaeobpmkdekfaaDoorP1
import Derived.Test.YtpaeobpmkdekfaaDoorP2
import Derived.Test.YtpaeobpmkdekfaaDoorP3
import Derived.Test.YtpaeobpmkdekfaaDoorP4
import Derived.Test.YtpaeobpmkdekfaaDoorWalk2
import Derived.Test.YtpaeobpmkdekfaaDoorTri
namespace Go.Proofs.YtpaeobpmkdekfaaDoor.Base
open Go.RowKit Go.Proofs.YtpaeobpmkdekfaaDoor.P Go.Proofs.YtpaeobpmkdekfaaDoor.Kit Go.Proofs.YtpaeobpmkdekfaaDoorW.PrintWords Go.Proofs.YtpaeobpmkdekfaaDoorW.PrintLast Go.Proofs.YtpaeobpmkdekfaaDoor.Tri

theorem tmod_emod (x n : Int) (hn : 0 < n) : Int.tmod x n % n = x % n := by
  rw [Int.tmod_eq_emod]
  split
  · simp
  · have hna : (n.natAbs : Int) = n := by omega
    rw [hna, Int.sub_emod_right, Int.emod_emod_of_dvd _ (Int.dvd_refl n)]
theorem number_pos (n a b x : Int) (dark : Bool) (hn0 : 0 < n) (hn : n ≤ 16) : triads_Kind_number.f n a b x dark = some (pos n dark x) := by
  rw [number_f n a b x dark hn0 hn]
  unfold pos
  congr 1
  cases dark
  · rfl
  · simp only [if_true]; omega
theorem shift_f {n a b : Int} (t k : Int) (turned : Bool) (hn : Int64 n) (ha : Int64 a) (hb : Int64 b) : triads_Shift.f n a b t k turned = some (if (isKind n a b && isTri n t) = true then (shiftI n t k turned, 0) else (0, 2)) := by
  unfold triads_Shift.f
  rw [isTriad_f n a b t hn ha hb]
  simp only [Option.bind_some]
  cases hk : (isKind n a b && isTri n t) with
  | false => rfl
  | true =>
    obtain ⟨hk1, hk2⟩ := Bool.and_eq_true_iff.1 hk
    obtain ⟨h1, h2, h3⟩ := of_decide_eq_true hk1
    obtain ⟨ht0, ht⟩ := of_decide_eq_true hk2
    have hn0 : 0 < n := by omega
    have ts := tmod_small k n hn0
    have tt := tmod_small t n hn0
    simp only [if_true]
    rw [if_neg (by omega)]
    unfold triads_Kind_triad.f
    rw [if_neg (by omega)]
    simp only [Option.bind_some]
    rw [w64 (x := Int.tmod k n - Int.tmod t n) (by omega) (by omega), w64 (x := Int.tmod t n + Int.tmod k n) (by omega) (by omega), number_pos n a b _ _ hn0 h2]
    simp only [Option.bind_some]
    congr 2
    unfold shiftI
    have hd : (if turned = true then !decide (t ≥ n) else decide (t ≥ n)) = (decide (n ≤ t) != turned) := by
      have e : decide (t ≥ n) = decide (n ≤ t) := rfl
      rw [e]
      cases turned <;> cases decide (n ≤ t) <;> rfl
    rw [hd]
    refine pos_congr _ ?_
    cases turned with
    | true =>
      simp only [if_true]
      rw [Int.sub_emod, tmod_emod k n hn0, tmod_emod t n hn0, ← Int.sub_emod]
    | false =>
      simp only [Bool.false_eq_true, if_false]
      rw [Int.add_emod, tmod_emod k n hn0, tmod_emod t n hn0, ← Int.add_emod]
theorem rShift_f {n a b : Int} (t k : Int) (turned : Bool) (hk1 : isKind n a b = true) (hk2 : isTri n t = true) : sackbutref04_Shift.f n a b t k turned = some (shiftI n t k turned) := by
  obtain ⟨h1, h2, h3⟩ := of_decide_eq_true hk1
  obtain ⟨ht0, ht⟩ := of_decide_eq_true hk2
  have hn0 : 0 < n := by omega
  have e := Int.emod_nonneg k (show n ≠ 0 by omega)
  have l := Int.emod_lt_of_pos k hn0
  unfold sackbutref04_Shift.f
  rw [mod_f k n hn0 h2]
  simp only [Option.bind_some]
  have hdiv : Int.tdiv t n = if n ≤ t then 1 else 0 := by
    rw [Int.tdiv_eq_ediv_of_nonneg ht0]
    split
    · have := Int.mul_ediv_add_emod t n
      have e2 := Int.emod_nonneg t (show n ≠ 0 by omega)
      have l2 := Int.emod_lt_of_pos t hn0
      have e1 : t % n = t - n := by rw [← Int.sub_emod_right, Int.emod_eq_of_lt (by omega) (by omega)]
      have e3 : n * (t / n) = n * 1 := by omega
      exact Int.eq_of_mul_eq_mul_left (by omega) e3
    · exact Int.ediv_eq_zero_of_lt ht0 (by omega)
  have hmod : Int.tmod t n = t % n := Int.tmod_eq_emod_of_nonneg ht0
  have e2 := Int.emod_nonneg t (show n ≠ 0 by omega)
  have l2 := Int.emod_lt_of_pos t hn0
  rw [hdiv, hmod]
  unfold shiftI pos
  cases turned with
  | true =>
    simp only [if_true]
    rw [if_neg (by omega), w64 (x := k % n - t % n) (by omega) (by omega), mod_f _ n hn0 h2]
    simp only [Option.bind_some]
    rw [← Int.sub_emod]
    have e3 := Int.emod_nonneg (k - t) (show n ≠ 0 by omega)
    have l3 := Int.emod_lt_of_pos (k - t) hn0
    by_cases h : n ≤ t
    · rw [if_pos h, decide_eq_true h, if_neg (by decide), w64 (x := 1) (by omega) (by omega), show (1 : Int) - 1 = 0 by rfl, w64 (x := 0) (by omega) (by omega), Int.zero_mul, w64 (x := 0) (by omega) (by omega), Int.zero_add, w64 (by omega) (by omega)]
    · rw [if_neg h, decide_eq_false h, if_pos (by decide), w64 (x := 0) (by omega) (by omega), show (1 : Int) - 0 = 1 by rfl, w64 (x := 1) (by omega) (by omega), Int.one_mul, w64 (x := n) (by omega) (by omega), w64 (by omega) (by omega)]
  | false =>
    simp only [Bool.false_eq_true, if_false]
    rw [if_neg (by omega), w64 (x := t % n + k % n) (by omega) (by omega), Int.tmod_eq_emod_of_nonneg (by omega), ← Int.add_emod]
    have e3 := Int.emod_nonneg (t + k) (show n ≠ 0 by omega)
    have l3 := Int.emod_lt_of_pos (t + k) hn0
    by_cases h : n ≤ t
    · rw [if_pos h, decide_eq_true h, if_pos (by decide), w64 (x := 1) (by omega) (by omega), Int.one_mul, w64 (x := n) (by omega) (by omega), w64 (by omega) (by omega)]
    · rw [if_neg h, decide_eq_false h, if_neg (by decide), w64 (x := 0) (by omega) (by omega), Int.zero_mul, w64 (x := 0) (by omega) (by omega), Int.zero_add, w64 (by omega) (by omega)]
end Go.Proofs.YtpaeobpmkdekfaaDoor.Base
namespace Go.Proofs.YtpaeobpmkdekfaaDoor.Pure
open Go.RowKit Go.Proofs.YtpaeobpmkdekfaaDoor.P Go.Proofs.YtpaeobpmkdekfaaDoor.Kit Go.Proofs.YtpaeobpmkdekfaaDoor.Base Go.Proofs.YtpaeobpmkdekfaaDoorW.PrintWords Go.Proofs.YtpaeobpmkdekfaaDoorW.PrintLast
theorem TriadsShifts (a0 a1 a2 b1 b2 : Int) (b3 : Bool) (w0 : (Lit.int .i64 a0).wf = true) (w1 : (Lit.int .i64 a1).wf = true) (w2 : (Lit.int .i64 a2).wf = true) (_wb1 : (Lit.int .i64 b1).wf = true) (_wb2 : (Lit.int .i64 b2).wf = true) : ∃ k, P.sackbutlaw04_TriadsShifts.f k a0 a1 a2 b1 b2 b3 = some true := by
  have hn := int64_of w0
  have ha := int64_of w1
  have hb := int64_of w2
  refine Ev.rounds ?_
  refine Ev.congr (f := fun k => ((sackbutlaw04_fine.f k a0 a1 a2 ([b1] : List Int)).bind fun t166 => (if t166 = true then ((sackbutref04_Shift.f a0 a1 a2 b1 b2 b3).bind fun t167 => (if (if (isKind a0 a1 a2 && isTri a0 b1) = true then (Tri.shiftI a0 b1 b2 b3, (0 : Int)) else (0, 2)).1 = t167 then (if (if (isKind a0 a1 a2 && isTri a0 b1) = true then (Tri.shiftI a0 b1 b2 b3, (0 : Int)) else (0, 2)).2 = 0 then ((sackbutlaw04_awake.f).bind fun t168 => (some t168)) else (some false)) else (some false))) else (if (if (isKind a0 a1 a2 && isTri a0 b1) = true then (Tri.shiftI a0 b1 b2 b3, (0 : Int)) else (0, 2)).1 = 0 then (if (if (isKind a0 a1 a2 && isTri a0 b1) = true then (Tri.shiftI a0 b1 b2 b3, (0 : Int)) else (0, 2)).2 = 2 then ((sackbutlaw04_awake.f).bind fun t169 => (some t169)) else (some false)) else (some false))))) (fun k => by simp only [P.sackbutlaw04_TriadsShifts.f, sackbutlaw04_Of.f, Option.bind_some, shift_f b1 b2 b3 hn ha hb]) ?_
  refine Ev.bind (fine_f a0 a1 a2 b1 hn ha hb) ?_
  cases hk : (isKind a0 a1 a2 && isTri a0 b1) with
  | false =>
    simp only [Bool.false_eq_true, if_false, if_true, awake_f, Option.bind_some]
    exact Ev.now _
  | true =>
    obtain ⟨hk1, hk2⟩ := Bool.and_eq_true_iff.1 hk
    simp only [if_true, rShift_f b1 b2 b3 hk1 hk2, Option.bind_some, awake_f]
    exact Ev.now _
end Go.Proofs.YtpaeobpmkdekfaaDoor.Pure
