/- The set of an even scale is the spread one, moved; the tones that are not in it. By natural numbers alone. -/
import Derived.Test.YthbcdmbicfmeaaaBalanced
import Derived.Test.YthbcdmbicfmeaaaBase3
namespace Go.Proofs.Ythbcdmbicfmeaaa.Plain
open Go.Proofs.Ythbcdmbicfmeaaa.Kit Go.Proofs.Ythbcdmbicfmeaaa.Base

theorem spread_lt2 (n k m : Nat) (hn0 : 0 < n) : ∀ (d i acc : Nat), acc < 2 ^ n → spreadFrom n k m i d acc < 2 ^ n
  | 0, _, _, h => h
  | d + 1, i, acc, h => spread_lt2 n k m hn0 d (i + 1) _ (Nat.or_lt_two_pow h (Nat.pow_lt_pow_right (by decide) (Nat.mod_lt _ hn0)))
theorem spreadFrom_bit (n k m y : Nat) : ∀ (d i acc : Nat), (spreadFrom n k m i d acc).testBit y = true ↔ acc.testBit y = true ∨ ∃ q, i ≤ q ∧ q < i + d ∧ (q * n + m) / k % n = y
  | 0, i, acc => by
    simp only [spreadFrom]
    constructor
    · exact .inl
    · rintro (h | ⟨q, h1, h2, _⟩)
      · exact h
      · omega
  | d + 1, i, acc => by
    rw [spreadFrom, spreadFrom_bit n k m y d (i + 1), Nat.testBit_or, Bool.or_eq_true, Nat.testBit_two_pow, decide_eq_true_eq]
    constructor
    · rintro ((h | h) | ⟨q, h1, h2, h3⟩)
      · exact .inl h
      · exact .inr ⟨i, Nat.le_refl _, by omega, h⟩
      · exact .inr ⟨q, by omega, by omega, h3⟩
    · rintro (h | ⟨q, h1, h2, h3⟩)
      · exact .inl (.inl h)
      · by_cases e : q = i
        · subst e; exact .inl (.inr h3)
        · exact .inr ⟨q, by omega, by omega, h3⟩
theorem spread_bit (n k y : Nat) : (spread n k 0).testBit y = true ↔ ∃ q, q < k ∧ n * q / k % n = y := by
  unfold spread
  rw [spreadFrom_bit]
  constructor
  · rintro (h | ⟨q, _, h2, h3⟩)
    · simp at h
    · exact ⟨q, by omega, by rw [Nat.mul_comm]; exact h3⟩
  · rintro ⟨q, h2, h3⟩
    exact .inr ⟨q, by omega, by omega, by rw [Nat.mul_comm] at h3; exact h3⟩

/-- A tone, told by the walk round the circle. -/
theorem mem_walk {n : Nat} {t : List Nat} (hb : ∀ x, x ∈ t → x < n) (hp : 0 < t.length) (c x : Nat) : x ∈ t ↔ ∃ i, atN n t (i + c) % n = x := by
  constructor
  · intro hx
    obtain ⟨i, hi, rfl⟩ := List.mem_iff_getElem.1 hx
    have hc : c ≤ c * t.length := Nat.le_mul_of_pos_right c hp
    refine ⟨i + (c * t.length - c), ?_⟩
    rw [show i + (c * t.length - c) + c = i + c * t.length by omega, atN_periods n t hp, atN_low n t i hi, Nat.add_mul_mod_self_right]
    have e : t.getD i 0 = t[i] := by rw [List.getD_eq_getElem?_getD, List.getElem?_eq_getElem hi]; rfl
    rw [e]
    exact Nat.mod_eq_of_lt (hb _ hx)
  · rintro ⟨i, rfl⟩
    unfold atN
    have hm : (i + c) % t.length < t.length := Nat.mod_lt _ hp
    rw [Nat.add_mul_mod_self_right, Nat.mod_eq_of_lt (hb _ (getD_mem hm))]
    exact getD_mem hm
theorem walk_mod (n k i : Nat) (hk : 0 < k) : n * (i % k) / k % n = n * i / k % n := by
  have e1 : i % k + i / k * k = i := by rw [Nat.mul_comm]; have := Nat.div_add_mod i k; omega
  have e3 : n * i = n * (i % k) + (i / k * n) * k := by
    conv => lhs; rw [← e1]
    rw [Nat.mul_add]
    congr 1
    rw [Nat.mul_comm n, Nat.mul_assoc, Nat.mul_assoc, Nat.mul_comm k n]
  rw [e3, Nat.add_mul_div_right _ _ hk, Nat.add_mul_mod_self_right]

theorem lt_of_bits {n : Nat} {s s' : Nat} (hs : s < 2 ^ n) (hs' : s' < 2 ^ n) (h : ∀ x, x < n → (s.testBit x = true ↔ s'.testBit x = true)) : s = s' := by
  apply Nat.eq_of_testBit_eq
  intro x
  by_cases hx : x < n
  · rw [Bool.eq_iff_iff]; exact h x hx
  · rw [Nat.testBit_lt_two_pow (Nat.lt_of_lt_of_le hs (Nat.pow_le_pow_right (by decide) (by omega))), Nat.testBit_lt_two_pow (Nat.lt_of_lt_of_le hs' (Nat.pow_le_pow_right (by decide) (by omega)))]

theorem moved_mem (n s m x : Nat) (hn : 0 < n) (hm : m < n) (hs : s < 2 ^ n) (hx : x < n) : (moved n s m).testBit x = true ↔ ∃ y, y < n ∧ s.testBit y = true ∧ (m + y) % n = x := by
  have hbit : ∀ x, n ≤ x → s.testBit x = false := fun x hx => Nat.testBit_lt_two_pow (Nat.lt_of_lt_of_le hs (Nat.pow_le_pow_right (by decide) hx))
  have _ := hn
  rw [moved_bit n s m x (by omega) hx, Bool.or_eq_true, Bool.and_eq_true, decide_eq_true_eq]
  constructor
  · rintro (⟨h1, h2⟩ | h)
    · exact ⟨x - m, by omega, h2, by rw [show m + (x - m) = x by omega, Nat.mod_eq_of_lt hx]⟩
    · have : x + (n - m) < n := by
        refine Nat.lt_of_not_le (fun hle => ?_)
        rw [hbit _ hle] at h
        simp at h
      exact ⟨x + (n - m), this, h, by rw [show m + (x + (n - m)) = x + n by omega, Nat.add_mod_right, Nat.mod_eq_of_lt hx]⟩
  · rintro ⟨y, h1, h2, h3⟩
    by_cases c : m + y < n
    · rw [Nat.mod_eq_of_lt c] at h3
      left
      exact ⟨by omega, by rw [show x - m = y by omega]; exact h2⟩
    · rw [Nat.mod_eq_sub_mod (by omega), Nat.mod_eq_of_lt (by omega)] at h3
      right
      rw [show x + (n - m) = y by omega]
      exact h2

/-- An even scale is the spread one, moved. -/
theorem even_set (n s : Nat) (hn : 0 < n) (hs : s < 2 ^ n) (hp : 0 < (tones n s).length) (he : evenN n s = true) : ∃ r, r < n ∧ s = moved n (spread n (tones n s).length 0) r := by
  have ht := tones_rising n s
  have hb := tones_bound n s
  obtain ⟨a, i1, hi1, ha, h⟩ := spread_of_even ht hb hp he
  have ha' : a < n := by rw [ha, atN_low n _ i1 hi1]; exact hb _ (getD_mem hi1)
  have hsl : spread n (tones n s).length 0 < 2 ^ n := spread_lt2 n _ 0 hn _ 0 0 (Nat.two_pow_pos n)
  refine ⟨a, ha', lt_of_bits hs (moved_lt' n _ a) (fun x hx => ?_)⟩
  rw [moved_mem n _ a x hn ha' hsl hx]
  have hm := mem_tones n s x
  rw [mem_walk hb hp i1 x] at hm
  constructor
  · intro hbx
    obtain ⟨i, hi⟩ := hm.2 ⟨hx, hbx⟩
    rw [h i] at hi
    refine ⟨n * i / (tones n s).length % n, Nat.mod_lt _ hn, (spread_bit n _ _).2 ⟨i % (tones n s).length, Nat.mod_lt _ hp, walk_mod n _ i hp⟩, ?_⟩
    rw [Nat.add_mod_mod]
    exact hi
  · rintro ⟨y, hy, hby, hxy⟩
    obtain ⟨q, hq, hqy⟩ := (spread_bit n _ _).1 hby
    refine (hm.1 ⟨q, ?_⟩).2
    rw [h q, ← hxy, ← hqy, Nat.add_mod_mod]

/-! ### the other tones -/
def others (n s : Nat) : Nat := 2 ^ n - 1 - s
theorem others_bit (n s x : Nat) (hs : s < 2 ^ n) (hx : x < n) : (others n s).testBit x = !s.testBit x := by
  unfold others
  rw [show 2 ^ n - 1 - s = 2 ^ n - (s + 1) by omega, Nat.testBit_two_pow_sub_succ hs]
  simp [hx]
theorem others_lt (n s : Nat) : others n s < 2 ^ n := by
  have := Nat.two_pow_pos n
  unfold others
  omega
theorem others_moved (n s m : Nat) (hn : 0 < n) (hm : m < n) (hs : s < 2 ^ n) : others n (moved n s m) = moved n (others n s) m := by
  have hbit : ∀ x, n ≤ x → s.testBit x = false := fun x hx => Nat.testBit_lt_two_pow (Nat.lt_of_lt_of_le hs (Nat.pow_le_pow_right (by decide) hx))
  have hbit' : ∀ x, n ≤ x → (others n s).testBit x = false := fun x hx => Nat.testBit_lt_two_pow (Nat.lt_of_lt_of_le (others_lt n s) (Nat.pow_le_pow_right (by decide) hx))
  have _ := hn
  refine lt_of_bits (others_lt n _) (moved_lt' n _ m) (fun x hx => ?_)
  rw [others_bit n _ x (moved_lt' n s m) hx, moved_bit n s m x (by omega) hx, moved_bit n (others n s) m x (by omega) hx]
  by_cases c : m ≤ x
  · rw [hbit (x + (n - m)) (by omega), hbit' (x + (n - m)) (by omega), others_bit n s (x - m) hs (by omega)]
    simp [c]
  · rw [others_bit n s (x + (n - m)) hs (by omega)]
    simp [c]
theorem others_twice (n s : Nat) (hs : s < 2 ^ n) : others n (others n s) = s := by
  unfold others
  omega
theorem others_count (n s : Nat) (hs : s < 2 ^ n) : (tones n s).length + (tones n (others n s)).length = n := by
  have key : ∀ (d i : Nat), i + d ≤ n → (tonesFrom s i d).length + (tonesFrom (others n s) i d).length = d := by
    intro d
    induction d with
    | zero => intro i _; rfl
    | succ d ih =>
      intro i hi
      unfold tonesFrom
      have := ih (i + 1) (by omega)
      rw [others_bit n s i hs (by omega), List.length_append, List.length_append]
      cases s.testBit i <;> simp <;> omega
  exact key n 0 (by omega)

/-- The tones that the spread scale lacks, told by division. -/
def lackOk (n k : Nat) : Bool := if k < n then tones n (others n (spread n k 0)) == (List.range (n - k)).map (fun j => (n * j + (n - 1)) / (n - k)) else true
theorem lackOk_all : allBelow (fun n => allBelow (fun k => lackOk (n + 2) (k + 1)) (n + 2)) 15 = true := by decide +kernel
theorem lackOk_at (n k : Nat) (h1 : 2 ≤ n) (h2 : n ≤ 16) (h3 : 1 ≤ k) (h4 : k < n) : tones n (others n (spread n k 0)) = (List.range (n - k)).map (fun j => (n * j + (n - 1)) / (n - k)) := by
  have a := allBelow_spec (allBelow_spec lackOk_all (n - 2) (by omega)) (k - 1) (by omega)
  rw [show n - 2 + 2 = n by omega, show k - 1 + 1 = k by omega] at a
  unfold lackOk at a
  rw [if_pos h4] at a
  exact eq_of_beq a

theorem others_even_one (n s : Nat) (h1 : 2 ≤ n) (h2 : n ≤ 16) (hs : s < 2 ^ n) (hp : 0 < (tones n s).length) (hk : (tones n s).length < n) (he : evenN n s = true) : evenN n (others n s) = true := by
  obtain ⟨r, hr, e⟩ := even_set n s (by omega) hs hp he
  have hl := lackOk_at n _ h1 h2 hp hk
  have hsl : spread n (tones n s).length 0 < 2 ^ n := spread_lt2 n _ 0 (by omega) _ 0 0 (Nat.two_pow_pos n)
  generalize (tones n s).length = k at *
  have hlen : (tones n (others n (spread n k 0))).length = n - k := by rw [hl]; simp
  have hbase : evenFrom n (tones n (others n (spread n k 0))) 1 ((tones n (others n (spread n k 0))).length - 1) = true := by
    refine even_of_spread (tones_rising n _) (tones_bound n _) (by omega) (n - 1) (fun i hi => ?_)
    rw [hlen] at hi ⊢
    rw [hl, List.getD_eq_getElem?_getD, List.getElem?_map, List.getElem?_range hi]
    rfl
  have hrot := rot n (others n (spread n k 0)) (by omega) (others_lt n _) (by omega) r (by omega)
  rw [e, others_moved n _ r (by omega) hr hsl]
  unfold evenN
  rw [hrot.len, evenFrom_congr (fun j _ => hrot.sizes j) _ _ (by omega)]
  exact hbase
/-- The other tones are even, or not, as these. -/
theorem others_even (n s : Nat) (h1 : 2 ≤ n) (h2 : n ≤ 16) (hs : s < 2 ^ n) (hp : 0 < (tones n s).length) (hk : (tones n s).length < n) : evenN n (others n s) = evenN n s := by
  have hc := others_count n s hs
  rw [Bool.eq_iff_iff]
  constructor
  · intro h
    have := others_even_one n (others n s) h1 h2 (others_lt n s) (by omega) (by omega) h
    rwa [others_twice n s hs] at this
  · exact others_even_one n s h1 h2 hs hp hk

end Go.Proofs.Ythbcdmbicfmeaaa.Plain
