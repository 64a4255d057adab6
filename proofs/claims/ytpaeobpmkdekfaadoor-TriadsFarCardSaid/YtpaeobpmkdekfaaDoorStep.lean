/- What a step, a walk, and the tests of a Kind compute, of the program and of the reference, told by plain whole numbers. -/
import Derived.Test.YtpaeobpmkdekfaaDoorP2
import Derived.Test.YtpaeobpmkdekfaaDoorP3
import Derived.Test.YtpaeobpmkdekfaaDoorP6
import Derived.Test.YtpaeobpmkdekfaaDoorKit
namespace Go.Proofs.YtpaeobpmkdekfaaDoor.Base
open Go.RowKit Go.Proofs.YtpaeobpmkdekfaaDoor.P Go.Proofs.YtpaeobpmkdekfaaDoor.Kit Go.Proofs.YtpaeobpmkdekfaaDoorW.PrintWords Go.Proofs.YtpaeobpmkdekfaaDoorW.PrintLast

theorem tm (x n : Int) (hn : 0 < n) : Int.tmod (Int.tmod x n + n) n = x % n := by
  have e := Int.emod_nonneg x (show n ≠ 0 by omega)
  have l := Int.emod_lt_of_pos x hn
  have hna : (n.natAbs : Int) = n := by omega
  have q : Int.tmod x n = x % n ∨ Int.tmod x n = x % n - n := by
    rw [Int.tmod_eq_emod]
    split
    · left; omega
    · right; rw [hna]
  rcases q with q | q
  · rw [q, Int.tmod_eq_emod_of_nonneg (by omega), Int.add_emod_right, Int.emod_emod_of_dvd _ (Int.dvd_refl n)]
  · rw [q, show x % n - n + n = x % n by omega, Int.tmod_eq_emod_of_nonneg e, Int.emod_emod_of_dvd _ (Int.dvd_refl n)]

/-- A Kind, as the document says. -/
def isKind (n a b : Int) : Bool := decide (5 ≤ n ∧ n ≤ 16 ∧ 0 < a ∧ a < b ∧ b < n ∧ a ≠ b - a ∧ a ≠ n - b ∧ b - a ≠ n - b)
def up (a b c : Int) : Int := if c = 80 then b else if c = 76 then a + b else a
def stepI (n a b t c : Int) : Int := if t < n then n + (t + up a b c) % n else (t - up a b c) % n
theorem up_le {n a b : Int} (h : isKind n a b = true) (c : Int) : 0 < up a b c ∧ up a b c ≤ 32 := by
  obtain ⟨h1, h2, h3, h4, h5, _⟩ := of_decide_eq_true h
  unfold up
  split
  · omega
  · split <;> omega
theorem step_range {n a b : Int} (h : isKind n a b = true) (t c : Int) : 0 ≤ stepI n a b t c ∧ stepI n a b t c < 2 * n := by
  obtain ⟨h1, h2, h3, h4, h5, _⟩ := of_decide_eq_true h
  unfold stepI
  split
  · have := Int.emod_nonneg (t + up a b c) (show n ≠ 0 by omega)
    have := Int.emod_lt_of_pos (t + up a b c) (show 0 < n by omega)
    omega
  · have := Int.emod_nonneg (t - up a b c) (show n ≠ 0 by omega)
    have := Int.emod_lt_of_pos (t - up a b c) (show 0 < n by omega)
    omega
theorem up_f {n a b : Int} (h : isKind n a b = true) (c : Int) : triads_Kind_up.f n a b c = some (up a b c) := by
  obtain ⟨h1, h2, h3, h4, h5, _⟩ := of_decide_eq_true h
  unfold triads_Kind_up.f up
  rw [w64 (x := a + b) (by omega) (by omega)]
  split
  · rfl
  · split <;> rfl
theorem tmod_small (x n : Int) (hn0 : 0 < n) : -n < Int.tmod x n ∧ Int.tmod x n < n := by
  have e := Int.emod_nonneg x (show n ≠ 0 by omega)
  have l := Int.emod_lt_of_pos x hn0
  have hna : (n.natAbs : Int) = n := by omega
  rw [Int.tmod_eq_emod]
  split
  · omega
  · rw [hna]
    have : x % n ≠ 0 := by
      intro h0
      have : n ∣ x := Int.dvd_of_emod_eq_zero h0
      omega
    omega
theorem number_f (n a b x : Int) (dark : Bool) (hn0 : 0 < n) (hn : n ≤ 16) : triads_Kind_number.f n a b x dark = some (if dark = true then x % n + n else x % n) := by
  have ts := tmod_small x n hn0
  have e := Int.emod_nonneg x (show n ≠ 0 by omega)
  have l := Int.emod_lt_of_pos x hn0
  unfold triads_Kind_number.f
  rw [if_neg (by omega), w64 (x := Int.tmod x n + n) (by omega) (by omega), tm x n hn0, w64 (x := x % n + n) (by omega) (by omega)]
  split <;> rfl
theorem step_f {n a b : Int} (h : isKind n a b = true) (t c : Int) (ht0 : 0 ≤ t) (ht : t < 2 * n) : triads_Kind_step.f n a b t c = some (stepI n a b t c) := by
  obtain ⟨h1, h2, h3, h4, h5, _⟩ := of_decide_eq_true h
  have hu := up_le h c
  unfold triads_Kind_step.f triads_Kind_triad.f stepI
  rw [if_neg (by omega)]
  simp only [Option.bind_some, up_f h]
  by_cases c1 : t < n
  · have e1 : Int.tmod t n = t := by rw [Int.tmod_eq_emod_of_nonneg ht0, Int.emod_eq_of_lt ht0 c1]
    have d1 : decide (t ≥ n) = false := decide_eq_false (by omega)
    rw [d1, e1, if_neg (by decide), w64 (x := t + up a b c) (by omega) (by omega), number_f n a b _ _ (by omega) h2, if_pos c1]
    simp only [Option.bind_some, Bool.not_false, if_true]
    congr 1
    omega
  · have e1 : Int.tmod t n = t - n := by rw [Int.tmod_eq_emod_of_nonneg ht0, ← Int.sub_emod_right, Int.emod_eq_of_lt (by omega) (by omega)]
    have d1 : decide (t ≥ n) = true := decide_eq_true (by omega)
    rw [d1, e1, if_pos rfl, w64 (x := t - n - up a b c) (by omega) (by omega), number_f n a b _ _ (by omega) h2, if_neg c1]
    simp only [Option.bind_some, Bool.not_true, Bool.false_eq_true, if_false]
    congr 1
    rw [show t - n - up a b c = t - up a b c - n by omega, Int.sub_emod_right]
theorem mod_f (x n : Int) (hn0 : 0 < n) (hn : n ≤ 16) : sackbutref04_mod.f x n = some (x % n) := by
  have ts := tmod_small x n hn0
  unfold sackbutref04_mod.f
  rw [if_neg (by omega), w64 (x := Int.tmod x n + n) (by omega) (by omega), tm x n hn0]
theorem rStep_f {n a b : Int} (h : isKind n a b = true) (t c : Int) (ht0 : 0 ≤ t) (ht : t < 2 * n) : sackbutref04_Step.f n a b t c = some (stepI n a b t c) := by
  obtain ⟨h1, h2, h3, h4, h5, _⟩ := of_decide_eq_true h
  have key : ∀ u : Int, 0 < u → u ≤ 32 → (if t < n then (if n = 0 then (none : Option Int) else (some (wrap64 (n + (Int.tmod (wrap64 (t + u)) n))))) else ((sackbutref04_mod.f (wrap64 (t - u)) n).bind fun t133 => (some t133))) = some (if t < n then n + (t + u) % n else (t - u) % n) := by
    intro u hu0 hu
    by_cases c1 : t < n
    · have e := Int.emod_nonneg (t + u) (show n ≠ 0 by omega)
      have l := Int.emod_lt_of_pos (t + u) (show 0 < n by omega)
      rw [if_pos c1, if_pos c1, if_neg (by omega), w64 (x := t + u) (by omega) (by omega), Int.tmod_eq_emod_of_nonneg (by omega), w64 (by omega) (by omega)]
    · rw [if_neg c1, if_neg c1, w64 (x := t - u) (by omega) (by omega), mod_f _ n (by omega) h2]
      rfl
  unfold sackbutref04_Step.f stepI up
  rw [w64 (x := a + b) (by omega) (by omega)]
  by_cases c1 : c = 80
  · rw [if_pos c1, if_pos c1]; exact key b (by omega) (by omega)
  · rw [if_neg c1, if_neg c1]
    by_cases c2 : c = 76
    · rw [if_pos c2, if_pos c2]; exact key (a + b) (by omega) (by omega)
    · rw [if_neg c2, if_neg c2]; exact key a (by omega) (by omega)

end Go.Proofs.YtpaeobpmkdekfaaDoor.Base
