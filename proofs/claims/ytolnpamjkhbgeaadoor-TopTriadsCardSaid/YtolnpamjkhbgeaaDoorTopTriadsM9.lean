/- Texts that the proof of TopTriads needs, put together in build order by this session's program (wip/tools/claimtrim.py). -/
import Derived.Lib.TrailingZeros
section
namespace Go.Proofs.YtolnpamjkhbgeaaDoor.Bits
open Go
/-- The tones of a chord, rising. -/
def tonesL (c : Nat) : List Nat := if c = 0 then [] else Lib.ctz 64 c :: tonesL (c &&& (c - 1))
termination_by c
decreasing_by exact Nat.lt_of_le_of_lt Nat.and_le_right (by omega)
/-- What the tones become. -/
def turnL (n : Nat) (l : List Nat) : Nat := l.foldl (fun acc x => acc ||| 2 ^ ((n - x) % n)) 0
theorem ctz_bits (c : Nat) (h0 : c ≠ 0) (h : c < 2 ^ 64) : c.testBit (Lib.ctz 64 c) = true ∧ ∀ j, (c &&& (c - 1)).testBit j = (c.testBit j && decide (j ≠ Lib.ctz 64 c)) := by
  obtain ⟨m, hm, _⟩ := Lib.ctzFrom_spec 64 c (by omega) h
  have e : Lib.ctz 64 c = Lib.ctzFrom 64 c := by unfold Lib.ctz; rw [if_neg h0]
  rw [e]
  generalize Lib.ctzFrom 64 c = k at hm
  have hp : 0 < 2 ^ k := Nat.two_pow_pos k
  have h1 : c - 1 = 2 ^ k * (2 * m) + (2 ^ k - 1) := by rw [hm, Nat.mul_add, Nat.mul_one]; omega
  have hb : ∀ j, c.testBit j = (decide (j ≥ k) && (2 * m + 1).testBit (j - k)) := fun j => by rw [hm, Nat.testBit_two_pow_mul]
  refine ⟨by rw [hb]; simp, fun j => ?_⟩
  rw [Nat.testBit_and, h1, Nat.testBit_two_pow_mul_add _ (by omega), hb]
  rcases Nat.lt_trichotomy j k with hj | hj | hj
  · simp [show ¬ k ≤ j by omega]
  · subst hj
    simp
  · obtain ⟨i, hi⟩ : ∃ i, j - k = i + 1 := ⟨j - k - 1, by omega⟩
    rw [if_neg (by omega), hi, Nat.testBit_succ, Nat.testBit_succ, show (2 * m + 1) / 2 = m by omega, show 2 * m / 2 = m by omega]
    simp [show k ≤ j by omega, show j ≠ k by omega]
theorem mem_tonesL : ∀ (c : Nat), c < 2 ^ 64 → ∀ x, x ∈ tonesL c ↔ c.testBit x = true := by
  intro c
  induction c using Nat.strongRecOn with
  | _ c ih =>
    intro hc x
    rw [tonesL]
    by_cases h0 : c = 0
    · rw [if_pos h0, h0]; simp
    · rw [if_neg h0, List.mem_cons]
      obtain ⟨h1, h2⟩ := ctz_bits c h0 hc
      have hlt : c &&& (c - 1) < c := Nat.lt_of_le_of_lt Nat.and_le_right (by omega)
      rw [ih _ hlt (by omega) x, h2 x, Bool.and_eq_true, decide_eq_true_eq]
      constructor
      · rintro (rfl | h)
        · exact h1
        · exact h.1
      · intro h
        by_cases e : x = Lib.ctz 64 c
        · exact .inl e
        · exact .inr ⟨h, e⟩
theorem tonesL_lt (n s : Nat) (hn : n ≤ 16) (hs : s < 2 ^ n) (x : Nat) (hx : x ∈ tonesL s) : x < n := by
  have h64 : s < 2 ^ 64 := Nat.lt_of_lt_of_le hs (Nat.pow_le_pow_right (by decide) (by omega))
  have h := (mem_tonesL s h64 x).1 hx
  refine Nat.lt_of_not_le (fun hle => ?_)
  rw [Nat.testBit_lt_two_pow (Nat.lt_of_lt_of_le hs (Nat.pow_le_pow_right (by decide) hle))] at h
  cases h
theorem foldl_bit (n y : Nat) : ∀ (l : List Nat) (acc : Nat), (l.foldl (fun acc x => acc ||| 2 ^ ((n - x) % n)) acc).testBit y = true ↔ acc.testBit y = true ∨ ∃ x ∈ l, (n - x) % n = y
  | [], acc => by simp
  | x :: l, acc => by
    rw [List.foldl_cons, foldl_bit n y l, Nat.testBit_or, Bool.or_eq_true, Nat.testBit_two_pow, decide_eq_true_eq, or_assoc]
    simp
theorem turnL_bit (n y : Nat) (l : List Nat) : (turnL n l).testBit y = true ↔ ∃ x ∈ l, (n - x) % n = y := by
  unfold turnL
  rw [foldl_bit]
  simp
theorem turnL_lt (n : Nat) (hn : 0 < n) (l : List Nat) : turnL n l < 2 ^ n := by
  refine Nat.lt_pow_two_of_testBit _ (fun i hi => ?_)
  cases h : (turnL n l).testBit i with
  | false => rfl
  | true =>
    obtain ⟨x, _, hx⟩ := (turnL_bit n i l).1 h
    have := Nat.mod_lt (n - x) hn
    omega
end Go.Proofs.YtolnpamjkhbgeaaDoor.Bits
end
