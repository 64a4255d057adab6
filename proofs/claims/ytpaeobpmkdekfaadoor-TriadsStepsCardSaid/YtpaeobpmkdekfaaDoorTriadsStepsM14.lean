/- Texts that the proof of TriadsSteps needs, put together in build order by this session's program (wip/tools/claimtrim.py). -/
import Derived.Test.YtpaeobpmkdekfaaDoorTriadsStepsM8
import Derived.Test.YtpaeobpmkdekfaaDoorTriadsStepsM10
import Derived.Test.YtpaeobpmkdekfaaDoorTriadsStepsM13
section
namespace Go.Proofs.YtpaeobpmkdekfaaDoor.Base
open Go.RowKit Go.Proofs.YtpaeobpmkdekfaaDoor.P Go.Proofs.YtpaeobpmkdekfaaDoor.Kit Go.Proofs.YtpaeobpmkdekfaaDoorW.PrintWords Go.Proofs.YtpaeobpmkdekfaaDoorW.PrintLast Go.Proofs.YtpaeobpmkdekfaaDoor.Tri
theorem kind_pos' {n a b : Int} (hk : isKind n a b = true) : 0 < n := by
  have := (of_decide_eq_true hk).1
  omega
theorem isWalk_f (s : ByteArray) : triads_isWalk.f s = some (isWalkB s) := rfl
theorem isWalk_size {s : ByteArray} (h : isWalkB s = true) : s.size ≤ 60 := by
  unfold isWalkB at h
  rw [Bool.and_eq_true] at h
  exact of_decide_eq_true h.1
theorem kwalk_f {n a b : Int} (hk : isKind n a b = true) (s : ByteArray) (hs : s.size ≤ 1000000) (t : Int) (h0 : 0 ≤ t) (h1 : t < 2 * n) : triads_Kind_walk.f n a b t s = some (walkI n a b s.data.toList t) := by
  unfold triads_Kind_walk.f
  rw [if_pos (by omega), walk_go hk _ t h0 h1]
theorem walk_f (n a b t : Int) (s : ByteArray) (hn : Int64 n) (ha : Int64 a) (hb : Int64 b) : triads_Walk.f n a b t s = some (if (isKind n a b && isTri n t) = true then (if isWalkB s = true then (walkI n a b s.data.toList t, 0) else (0, 3)) else (0, 2)) := by
  unfold triads_Walk.f
  rw [isTriad_f n a b t hn ha hb]
  simp only [Option.bind_some]
  cases hk : (isKind n a b && isTri n t) with
  | false => rfl
  | true =>
    obtain ⟨hk1, hk2⟩ := Bool.and_eq_true_iff.1 hk
    have ht := of_decide_eq_true hk2
    simp only [if_true, isWalk_f, Option.bind_some]
    cases hw : isWalkB s with
    | false => rfl
    | true =>
      simp only [if_true]
      rw [kwalk_f hk1 s (by have := isWalk_size hw; omega) t ht.1 ht.2]
      rfl
end Go.Proofs.YtpaeobpmkdekfaaDoor.Base
end

section
namespace Go.Proofs.YtpaeobpmkdekfaaDoor.Base
set_option linter.unusedVariables false
open Go.RowKit Go.Proofs.YtpaeobpmkdekfaaDoor.P Go.Proofs.YtpaeobpmkdekfaaDoor.Kit Go.Proofs.YtpaeobpmkdekfaaDoorW.PrintWords Go.Proofs.YtpaeobpmkdekfaaDoorW.PrintLast Go.Proofs.YtpaeobpmkdekfaaDoorW.PrintMore Go.Proofs.YtpaeobpmkdekfaaDoor.Tri
theorem shr_run (V x : Int) (h0 : 0 ≤ x) (h1 : x ≤ 16) (w' : World) : Sem.run Tryd.prog (Op.shift BinOp.shr IntKind.i64 V IntKind.i64 x) w' = .ok (.int .i64 (V / 2 ^ x.toNat)) w' := by
  have p := eq_true h0
  have q : ¬ x < 0 := by omega
  go_simp
theorem tone_bit (T : Nat) (hT : T < 2 ^ 62) (x : Int) (m : Nat) (hx : x = (m : Int)) (hm : m ≤ 16) (ht : T.testBit m = true) : ∃ y : Int, (∀ w' : World, Sem.run Tryd.prog (Op.shift BinOp.shr IntKind.i64 (T : Int) IntKind.i64 x) w' = .ok (.int .i64 y) w') ∧ Go.bits .and .i64 y 1 = 1 := by
  refine ⟨(T : Int) / 2 ^ x.toNat, fun w' => shr_run _ x (by omega) (by omega) w', ?_⟩
  have h := bit_at T m hT (by omega)
  rw [ht, if_pos rfl, shr_nat T m (by omega)] at h
  rw [hx, Int.toNat_natCast]
  have e : ((T / 2 ^ m : Nat) : Int) = (T : Int) / 2 ^ m := by simp
  rw [e] at h
  exact h
theorem tonesN_lt {n a b t : Int} (hk : isKind n a b = true) : tonesN n a b t < 2 ^ 62 := by
  obtain ⟨h1, h2, _⟩ := of_decide_eq_true hk
  have t0 := toneAt_lt n t 0 (by omega)
  have ta := toneAt_lt n t a (by omega)
  have tb := toneAt_lt n t b (by omega)
  exact or_lt62 (or_lt62 (pow_lt62 (by omega)) (pow_lt62 (by omega))) (pow_lt62 (by omega))
theorem tonesN_test (n a b t z : Int) (hz : z = 0 ∨ z = a ∨ z = b) : (tonesN n a b t).testBit (toneAt n t z) = true := by
  unfold tonesN
  rw [Nat.testBit_or, Nat.testBit_or]
  rcases hz with rfl | rfl | rfl
  · rw [Nat.testBit_two_pow_self]; simp
  · rw [Nat.testBit_two_pow_self (n := toneAt n t z)]; simp
  · rw [Nat.testBit_two_pow_self (n := toneAt n t z)]; simp
/-- The set of a triad's tones has a tone of it. -/
theorem bit_of {n a b t : Int} (hk : isKind n a b = true) (z : Int) (hz : z = 0 ∨ z = a ∨ z = b) (V x : Int) (hV : V = ((tonesN n a b t : Nat) : Int)) (hx : x = ((toneAt n t z : Nat) : Int)) : ∃ y : Int, (∀ w' : World, Sem.run Tryd.prog (Op.shift BinOp.shr IntKind.i64 V IntKind.i64 x) w' = .ok (.int .i64 y) w') ∧ Go.bits .and .i64 y 1 = 1 := by
  obtain ⟨h1, h2, _⟩ := of_decide_eq_true hk
  have tz := toneAt_lt n t z (by omega)
  subst hV
  exact tone_bit _ (tonesN_lt hk) x _ hx (by omega) (tonesN_test n a b t z hz)
/-- A tone that a step keeps. -/
theorem tone_kept {n a b t : Int} (hk : isKind n a b = true) (ht : isTri n t = true) (c y z : Int) (hyz : y + z = up a b c) : ((toneAt n t y : Nat) : Int) = ((toneAt n (stepI n a b t c) z : Nat) : Int) := by
  obtain ⟨h1, h2, _⟩ := of_decide_eq_true hk
  obtain ⟨t0, t1⟩ := of_decide_eq_true ht
  rw [toneAt_int n t y (by omega), toneAt_int n _ z (by omega)]
  unfold stepI
  by_cases h : t < n
  · rw [if_pos h, if_neg (by omega)]
    have e := Int.emod_nonneg (t + up a b c) (show n ≠ 0 by omega)
    rw [if_pos (by omega), show n + (t + up a b c) % n - z = (t + up a b c) % n - z + n by omega, Int.add_emod_right, Int.emod_sub_emod]
    congr 1
    omega
  · rw [if_neg h, if_pos (by omega)]
    have l := Int.emod_lt_of_pos (t - up a b c) (show 0 < n by omega)
    rw [if_neg (by omega), Int.emod_add_emod]
    congr 1
    omega
/-- A tone, as the statement says it. -/
theorem tone_said {n a b t : Int} (hk : isKind n a b = true) (ht : isTri n t = true) (y : Int) (hy0 : -40 ≤ y) (hy1 : y ≤ 40) : (wrap64 ((wrap64 (t % n + y)).tmod n + n)).tmod n = (t + y) % n := by
  obtain ⟨h1, h2, _⟩ := of_decide_eq_true hk
  have e := Int.emod_nonneg t (show n ≠ 0 by omega)
  have l := Int.emod_lt_of_pos t (show 0 < n by omega)
  have m := tmod_small (t % n + y) n (by omega)
  rw [w64 (x := t % n + y) (by omega) (by omega), w64 (x := (t % n + y).tmod n + n) (by omega) (by omega), tm (t % n + y) n (by omega), Int.emod_add_emod]
theorem tone0 {n t : Int} (hn : 0 < n) : t % n = ((toneAt n t 0 : Nat) : Int) := by
  rw [toneAt_int n t 0 hn]
  split <;> simp
/-- What a step leads to. -/
theorem step_dark {n a b t : Int} (hk : isKind n a b = true) (h : n ≤ t) (t1 : t < 2 * n) (c : Int) : stepI n a b t c / n = 0 ∧ t / n = 1 ∧ stepI n a b t c % n = (t + -up a b c) % n := by
  obtain ⟨h1, h2, _⟩ := of_decide_eq_true hk
  unfold stepI
  rw [if_neg (by omega)]
  have e := Int.emod_nonneg (t - up a b c) (show n ≠ 0 by omega)
  have l := Int.emod_lt_of_pos (t - up a b c) (show 0 < n by omega)
  refine ⟨Int.ediv_eq_zero_of_lt e l, ?_, by rw [Int.emod_emod_of_dvd _ (Int.dvd_refl n), Int.sub_eq_add_neg]⟩
  have : t = (t - n) + n * 1 := by omega
  rw [this, Int.add_mul_ediv_left _ _ (by omega), Int.ediv_eq_zero_of_lt (by omega) (by omega)]
  rfl
theorem step_bright {n a b t : Int} (hk : isKind n a b = true) (h : t < n) (t0 : 0 ≤ t) (c : Int) : stepI n a b t c / n = 1 ∧ t / n = 0 ∧ stepI n a b t c % n = (t + up a b c) % n := by
  obtain ⟨h1, h2, _⟩ := of_decide_eq_true hk
  unfold stepI
  rw [if_pos (by omega)]
  have e := Int.emod_nonneg (t + up a b c) (show n ≠ 0 by omega)
  have l := Int.emod_lt_of_pos (t + up a b c) (show 0 < n by omega)
  refine ⟨?_, Int.ediv_eq_zero_of_lt t0 h, by rw [Int.add_comm n, Int.add_emod_right, Int.emod_emod_of_dvd _ (Int.dvd_refl n)]⟩
  rw [show n + (t + up a b c) % n = (t + up a b c) % n + n * 1 by omega, Int.add_mul_ediv_left _ _ (by omega), Int.ediv_eq_zero_of_lt e l]
  rfl
theorem walk_one {n a b t : Int} (hn : Int64 n) (ha : Int64 a) (hb : Int64 b) (hk : isKind n a b = true) (ht : isTri n t = true) (c : UInt8) (hc : stepByte c = true) : triads_Walk.f n a b t ⟨#[c]⟩ = some (stepI n a b t (c.toNat : Int), 0) := by
  rw [walk_f n a b t _ hn ha hb, hk, ht]
  have hw : isWalkB ⟨#[c]⟩ = true := by
    unfold isWalkB
    show (decide ((1 : Nat) ≤ 60) && [c].all stepByte) = true
    simp [hc]
  rw [hw]
  rfl
theorem step_twice {n a b t : Int} (hk : isKind n a b = true) (ht : isTri n t = true) (c : UInt8) : stepI n a b (stepI n a b t (c.toNat : Int)) (c.toNat : Int) = t := by
  obtain ⟨t0, t1⟩ := of_decide_eq_true ht
  have := (walk_eq_iff (kind_pos' hk) a b [c, c] [] t t0 t1).2 ⟨rfl, by
    have e : alt a b [c, c] = up a b (c.toNat : Int) - (up a b (c.toNat : Int) - 0) := rfl
    have e2 : alt a b [] = 0 := rfl
    rw [e, e2]
    congr 1
    omega⟩
  exact this
theorem step_tri {n a b t : Int} (hk : isKind n a b = true) (c : Int) : isTri n (stepI n a b t c) = true := decide_eq_true (step_range hk t c)
end Go.Proofs.YtpaeobpmkdekfaaDoor.Base
end
