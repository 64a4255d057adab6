/- The sum of a scale, told by the sizes of its spans; it is the same for the scale moved, or turned. -/
import Derived.Test.YthbcdmbicfmeaaaTurn
import Derived.Test.YthbcdmbicfmeaaaSum
namespace Go.Proofs.Ythbcdmbicfmeaaa.Plain
open Go.RowKit Go.Proofs.Ythbcdmbicfmeaaa.Kit Go.Proofs.Ythbcdmbicfmeaaa.SumLaw Go.Proofs.YthbcdmbicfmeaaaW.PrintWords Go.Proofs.YthbcdmbicfmeaaaW.PrintLast

/-- The sum of f i for i below k. -/
def ps (f : Nat → Int) : Nat → Int
  | 0 => 0
  | k + 1 => ps f k + f k
theorem ps_congr {f g : Nat → Int} : ∀ {k : Nat}, (∀ i, i < k → f i = g i) → ps f k = ps g k
  | 0, _ => rfl
  | k + 1, h => by rw [ps, ps, ps_congr (fun i hi => h i (by omega)), h k (by omega)]
theorem ps_add (f g : Nat → Int) : ∀ k, ps (fun i => f i + g i) k = ps f k + ps g k
  | 0 => rfl
  | k + 1 => by rw [ps, ps, ps, ps_add f g k]; omega
theorem ps_neg (f : Nat → Int) : ∀ k, ps (fun i => - f i) k = - ps f k
  | 0 => rfl
  | k + 1 => by rw [ps, ps, ps_neg f k]; omega
theorem ps_zero : ∀ k, ps (fun _ => 0) k = 0
  | 0 => rfl
  | k + 1 => by rw [ps, ps_zero k]; rfl
theorem ps_const (c : Int) : ∀ k : Nat, ps (fun _ => c) k = k * c
  | 0 => by simp [ps]
  | k + 1 => by rw [ps, ps_const c k, show ((k + 1 : Nat) : Int) = (k : Int) + 1 from rfl, Int.add_mul, Int.one_mul]
theorem ps_mul (c : Int) (f : Nat → Int) : ∀ k, ps (fun i => c * f i) k = c * ps f k
  | 0 => by simp [ps]
  | k + 1 => by rw [ps, ps, ps_mul c f k, Int.mul_add]
theorem ps_head (f : Nat → Int) : ∀ k, ps f (k + 1) = f 0 + ps (fun i => f (i + 1)) k
  | 0 => by simp [ps]
  | k + 1 => by rw [ps, ps_head f k, ps]; omega
theorem ps_rev (f : Nat → Int) : ∀ k, ps (fun i => f (k - 1 - i)) k = ps f k
  | 0 => rfl
  | k + 1 => by
    have h := ps_rev (fun i => f (i + 1)) k
    rw [ps_head f k, ← h, ps]
    have e : ps (fun i => f (k + 1 - 1 - i)) k = ps (fun i => f (k - 1 - i + 1)) k := ps_congr (fun i hi => by rw [show k + 1 - 1 - i = k - 1 - i + 1 by omega])
    rw [e, show k + 1 - 1 - k = 0 by omega]
    omega
theorem ps_swap (f : Nat → Nat → Int) (m : Nat) : ∀ k, ps (fun i => ps (fun j => f i j) m) k = ps (fun j => ps (fun i => f i j) k) m
  | 0 => by rw [ps]; exact (ps_zero m).symm
  | k + 1 => by rw [ps, ps_swap f m k, ← ps_add]; rfl
theorem ps_shift (f : Nat → Int) (k : Nat) (hp : ∀ i, f (i + k) = f i) : ∀ c, ps (fun i => f (i + c)) k = ps f k
  | 0 => rfl
  | c + 1 => by
    rw [← ps_shift f k hp c]
    have h := ps_head (fun i => f (i + c)) k
    rw [ps] at h
    have e : ps (fun i => f (i + (c + 1))) k = ps (fun i => f (i + 1 + c)) k := ps_congr (fun i _ => by rw [show i + (c + 1) = i + 1 + c by omega])
    have e2 : f (k + c) = f (0 + c) := by rw [show k + c = 0 + c + k by omega, hp]
    rw [e]
    omega
theorem ps_nonneg {f : Nat → Int} : ∀ {k : Nat}, (∀ i, i < k → 0 ≤ f i) → 0 ≤ ps f k
  | 0, _ => Int.le_refl _
  | k + 1, h => by rw [ps]; have := ps_nonneg (k := k) (fun i hi => h i (by omega)); have := h k (by omega); omega
theorem ps_zero_iff {f : Nat → Int} : ∀ {k : Nat}, (∀ i, i < k → 0 ≤ f i) → (ps f k = 0 ↔ ∀ i, i < k → f i = 0)
  | 0, _ => ⟨fun _ i hi => by omega, fun _ => rfl⟩
  | k + 1, h => by
    rw [ps]
    have h1 := ps_nonneg (k := k) (fun i hi => h i (by omega))
    have h2 := h k (by omega)
    have ih := ps_zero_iff (k := k) (fun i hi => h i (by omega))
    constructor
    · intro e i hi
      by_cases hk : i = k
      · subst hk; omega
      · exact ih.1 (by omega) i (by omega)
    · intro e
      rw [ih.2 (fun i hi => e i (by omega)), e k (by omega)]
      rfl

/-- What a span of the size x adds. -/
def ph (n x : Int) : Int := x * (n - x)
theorem ph_turn (n x : Int) : ph n (n - x) = ph n x := by
  unfold ph
  rw [show n - (n - x) = x by omega, Int.mul_comm]

theorem inner_eq (n x : Int) (t : List Int) : ∀ (d j : Nat) (acc : Int), inner n x t j d acc = acc + ps (fun m => ph n (x - rd t ((j + m : Nat) : Int))) d
  | 0, j, acc => by simp [inner, ps]
  | d + 1, j, acc => by
    rw [inner, inner_eq n x t d (j + 1), ps_head]
    have e : ps (fun m => ph n (x - rd t ((j + 1 + m : Nat) : Int))) d = ps (fun m => ph n (x - rd t ((j + (m + 1) : Nat) : Int))) d := ps_congr (fun i _ => by rw [show j + 1 + i = j + (i + 1) by omega])
    have e2 : (x - rd t (j : Int)) * (n - x + rd t (j : Int)) = ph n (x - rd t ((j + 0 : Nat) : Int)) := by
      unfold ph
      rw [Nat.add_zero, show n - (x - rd t (j : Int)) = n - x + rd t (j : Int) by omega]
    rw [e, e2]
    omega
theorem outer_eq (n : Int) (t : List Int) : ∀ (d i : Nat) (acc : Int), outer n t i d acc = acc + ps (fun q => ps (fun m => ph n (rd t ((i + q : Nat) : Int) - rd t (m : Int))) (i + q)) d
  | 0, i, acc => by simp [outer, ps]
  | d + 1, i, acc => by
    rw [outer, outer_eq n t d (i + 1), ps_head, inner_eq]
    have e : ps (fun q => ps (fun m => ph n (rd t ((i + 1 + q : Nat) : Int) - rd t (m : Int))) (i + 1 + q)) d = ps (fun q => ps (fun m => ph n (rd t ((i + (q + 1) : Nat) : Int) - rd t (m : Int))) (i + (q + 1))) d := ps_congr (fun q _ => by rw [show i + 1 + q = i + (q + 1) by omega])
    rw [e]
    simp only [Nat.zero_add, Nat.add_zero]
    omega

/-- What the pair of two tones adds. -/
def pair (n : Nat) (t : List Nat) (i m : Nat) : Int := if m < i then ph n ((t.getD i 0 : Nat) - (t.getD m 0 : Nat) : Int) else ph n ((t.getD m 0 : Nat) - (t.getD i 0 : Nat) : Int)
theorem sumI_pairs (n : Nat) (t : List Nat) : sumI n (toI t) = ps (fun i => ps (pair n t i) i) t.length := by
  unfold sumI
  rw [outer_eq, toI_length, Int.zero_add]
  refine ps_congr (fun i _ => ?_)
  rw [Nat.zero_add]
  refine ps_congr (fun m hm => ?_)
  rw [rd_toI, rd_toI, pair, if_pos hm]
theorem pair_symm (n : Nat) (t : List Nat) (i m : Nat) : pair n t i m = pair n t m i := by
  unfold pair
  rcases Nat.lt_trichotomy i m with h | h | h
  · rw [if_neg (by omega), if_pos h]
  · subst h; rfl
  · rw [if_pos h, if_neg (by omega)]
theorem pair_self (n : Nat) (t : List Nat) (i : Nat) : pair n t i i = 0 := by
  unfold pair
  rw [if_neg (by omega), Int.sub_self]
  unfold ph
  rw [Int.zero_mul]
theorem pairs_square (n : Nat) (t : List Nat) : ∀ k, ps (fun i => ps (pair n t i) k) k = 2 * ps (fun i => ps (pair n t i) i) k
  | 0 => rfl
  | k + 1 => by
    have h := pairs_square n t k
    have e1 : ps (fun i => ps (pair n t i) (k + 1)) k = ps (fun i => ps (pair n t i) k) k + ps (fun i => pair n t i k) k := by rw [← ps_add]; rfl
    have e2 : ps (fun i => pair n t i k) k = ps (pair n t k) k := ps_congr (fun i _ => pair_symm n t i k)
    have e3 : ps (pair n t k) (k + 1) = ps (pair n t k) k + pair n t k k := rfl
    rw [ps, e1, h, e2, e3, pair_self, ps]
    omega

/-- What the span of j steps from t(i) adds. -/
def spanAdd (n : Nat) (t : List Nat) (i j : Nat) : Int := ph n ((atN n t (i + j) : Int) - (atN n t i : Int))
theorem spanAdd_period (n : Nat) (t : List Nat) (h : 0 < t.length) (i j : Nat) : spanAdd n t (i + t.length) j = spanAdd n t i j := by
  unfold spanAdd
  rw [show i + t.length + j = i + j + t.length by omega, atN_period n t h, atN_period n t h]
  congr 1
  omega
theorem spans_of (n : Nat) (t : List Nat) (i : Nat) (hi : i < t.length) : ps (fun j => spanAdd n t i j) t.length = ps (pair n t i) t.length := by
  have hs := ps_shift (fun m => pair n t i (m % t.length)) t.length (fun m => by rw [Nat.add_mod_right]) i
  have e1 : ps (fun m => pair n t i (m % t.length)) t.length = ps (pair n t i) t.length := ps_congr (fun m hm => by rw [Nat.mod_eq_of_lt hm])
  rw [← e1, ← hs]
  refine ps_congr (fun j hj => ?_)
  unfold spanAdd
  rw [atN_low n t i hi]
  by_cases hge : t.length ≤ i + j
  · rw [atN_high n t (i + j) hge (by omega), show j + i = i + j by omega, Nat.mod_eq_sub_mod hge, Nat.mod_eq_of_lt (show i + j - t.length < t.length by omega)]
    unfold pair
    rw [if_pos (by omega), ← ph_turn]
    congr 1
    omega
  · rw [atN_low n t (i + j) (by omega), show j + i = i + j by omega, Nat.mod_eq_of_lt (show i + j < t.length by omega)]
    unfold pair
    rw [if_neg (by omega)]
/-- Twice the sum: over all spans. -/
theorem sumI_spans (n : Nat) (t : List Nat) (_h : 0 < t.length) : 2 * sumI n (toI t) = ps (fun i => ps (fun j => spanAdd n t i j) t.length) t.length := by
  rw [sumI_pairs, ← pairs_square]
  exact ps_congr (fun i hi => (spans_of n t i hi).symm)

theorem Moved.sum {n : Nat} {t t' : List Nat} (m : Moved n t t') : sumI n (toI t') = sumI n (toI t) := by
  have hp' : 0 < t'.length := by rw [m.len]; exact m.pos
  have h1 := sumI_spans n t m.pos
  have h2 := sumI_spans n t' hp'
  rw [m.len] at h2
  obtain ⟨c, e, e', h⟩ := m.shift
  have hs := ps_shift (fun i => ps (fun j => spanAdd n t i j) t.length) t.length (fun i => ps_congr (fun j _ => spanAdd_period n t m.pos i j)) c
  have : ps (fun i => ps (fun j => spanAdd n t' i j) t.length) t.length = ps (fun i => ps (fun j => spanAdd n t (i + c) j) t.length) t.length := by
    refine ps_congr (fun i _ => ps_congr (fun j _ => ?_))
    unfold spanAdd
    have h3 := h i
    have h4 := h (i + j)
    congr 1
    rw [show i + c + j = i + j + c by omega]
    omega
  omega
theorem Turned.sum {n : Nat} {t t' : List Nat} (m : Turned n t t') : sumI n (toI t') = sumI n (toI t) := by
  have hp := m.pos
  have hp' : 0 < t'.length := by rw [m.len]; exact m.pos
  have h1 := sumI_spans n t m.pos
  have h2 := sumI_spans n t' hp'
  rw [m.len] at h2
  obtain ⟨c, e, h⟩ := m.shift
  have e1 : ps (fun i => ps (fun j => spanAdd n t' i j) t.length) t.length = ps (fun j => ps (fun i => spanAdd n t (c + 4 * t.length - j - i) j) t.length) t.length := by
    rw [ps_swap]
    refine ps_congr (fun j hj => ps_congr (fun i hi => ?_))
    unfold spanAdd
    have h3 := h i (by omega)
    have h4 := h (i + j) (by omega)
    congr 1
    rw [show c + 4 * t.length - j - i + j = c + 4 * t.length - i by omega, show c + 4 * t.length - j - i = c + 4 * t.length - (i + j) by omega]
    omega
  have e2 : ps (fun i => ps (fun j => spanAdd n t i j) t.length) t.length = ps (fun j => ps (fun i => spanAdd n t (c + 4 * t.length - j - i) j) t.length) t.length := by
    rw [ps_swap]
    refine ps_congr (fun j hj => ?_)
    have hs := ps_shift (fun i => spanAdd n t i j) t.length (fun i => spanAdd_period n t m.pos i j) (c + 4 * t.length - j - (t.length - 1))
    have hr := ps_rev (fun i => spanAdd n t (i + (c + 4 * t.length - j - (t.length - 1))) j) t.length
    rw [← hs, ← hr]
    refine ps_congr (fun i hi => ?_)
    rw [show t.length - 1 - i + (c + 4 * t.length - j - (t.length - 1)) = c + 4 * t.length - j - i by omega]
  omega

/-! ### turned -/
theorem reverse_getD (t : List Nat) (i : Nat) (h : i < t.length) : t.reverse.getD i 0 = t.getD (t.length - 1 - i) 0 := by
  rw [List.getD_eq_getElem?_getD, List.getD_eq_getElem?_getD, List.getElem?_reverse h]
theorem turned_all {n : Nat} {t t' : List Nat} (hl : t'.length = t.length) (hp : 0 < t.length) (c e : Nat) (base : ∀ i, i < t.length → atN n t' i + atN n t (c + 4 * t.length - i) = e) : Turned n t t' := by
  refine ⟨hl, hp, c, e, ?_⟩
  intro i
  induction i using Nat.strongRecOn with
  | ind i ih =>
    intro hi
    by_cases hk : i < t.length
    · exact base i hk
    · have h1 := ih (i - t.length) (by omega) (by omega)
      have h2 := atN_period n t' (by omega) (i - t.length)
      have h3 := atN_period n t hp (c + 4 * t.length - i)
      rw [hl, show i - t.length + t.length = i by omega] at h2
      rw [show c + 4 * t.length - i + t.length = c + 4 * t.length - (i - t.length) by omega] at h3
      omega
/-- The tones of the set that is turned. -/
theorem turn_tones (n s s' : Nat) (hn : 0 < n) (hs' : ∀ y, y < n → s'.testBit y = s.testBit ((n - y) % n)) (hp : 0 < (tones n s).length) : Turned n (tones n s) (tones n s') := by
  have ht := tones_rising n s
  have hb := tones_bound n s
  have hin : ∀ i, i < (tones n s).length → (tones n s).getD i 0 < n := fun i hi => hb _ (getD_mem hi)
  by_cases h0 : s.testBit 0 = true
  · -- 0 stays
    obtain ⟨u, hu⟩ : ∃ u, tones n s = 0 :: u := by
      have hm : 0 ∈ tones n s := (mem_tones n s 0).2 ⟨hn, h0⟩
      cases htt : tones n s with
      | nil => rw [htt] at hp; simp at hp
      | cons a u =>
        rw [htt] at hm ht
        rcases List.mem_cons.1 hm with e | e
        · exact ⟨u, by rw [e]⟩
        · have := (List.pairwise_cons.1 ht).1 0 e; omega
    have hu' : ∀ x, x ∈ u ↔ x ≠ 0 ∧ x < n ∧ s.testBit x = true := by
      intro x
      have h1 := mem_tones n s x
      rw [hu] at ht
      have h2 := (List.pairwise_cons.1 ht).1 x
      rw [hu, List.mem_cons] at h1
      constructor
      · intro hx; have := h2 hx; exact ⟨by omega, h1.1 (.inr hx)⟩
      · rintro ⟨a, b⟩
        rcases h1.2 b with h | h
        · exact absurd h a
        · exact h
    have hcand : tones n s' = 0 :: u.reverse.map (n - ·) := by
      have hur : Rising u := by rw [hu] at ht; exact (List.pairwise_cons.1 ht).2
      refine rising_eqN (tones_rising n _) (List.pairwise_cons.2 ⟨fun y hy => ?_, ?_⟩) (fun x => ?_)
      · obtain ⟨z, hz, rfl⟩ := List.mem_map.1 hy
        have := (hu' z).1 (List.mem_reverse.1 hz)
        omega
      · rw [List.pairwise_map, List.pairwise_reverse]
        refine List.Pairwise.imp_of_mem (R := fun a b : Nat => a < b) ?_ hur
        intro a b ha hb' hab
        have := (hu' a).1 ha
        have := (hu' b).1 hb'
        omega
      · rw [mem_tones, List.mem_cons, List.mem_map]
        constructor
        · rintro ⟨hx, hbx⟩
          rw [hs' x hx] at hbx
          by_cases hx0 : x = 0
          · exact .inl hx0
          · right
            rw [Nat.mod_eq_of_lt (by omega)] at hbx
            exact ⟨n - x, List.mem_reverse.2 ((hu' (n - x)).2 ⟨by omega, by omega, hbx⟩), by omega⟩
        · rintro (rfl | ⟨z, hz, rfl⟩)
          · refine ⟨hn, ?_⟩
            rw [hs' 0 hn, Nat.sub_zero, Nat.mod_self, h0]
          · have hz' := (hu' z).1 (List.mem_reverse.1 hz)
            refine ⟨by omega, ?_⟩
            rw [hs' (n - z) (by omega), show n - (n - z) = z by omega, Nat.mod_eq_of_lt hz'.2.1, hz'.2.2]
    have hlen : (tones n s').length = (tones n s).length := by rw [hcand, hu]; simp
    have hul : (tones n s).length = u.length + 1 := by rw [hu]; simp
    refine turned_all hlen hp 0 (4 * n) (fun i hi => ?_)
    rw [atN_low n _ i (by omega), hcand]
    rcases Nat.eq_zero_or_pos i with hi0 | hi0
    · subst hi0
      have := atN_periods n (tones n s) hp 4 0
      rw [Nat.zero_add, atN_low n _ 0 hp] at this
      rw [Nat.zero_add, Nat.sub_zero, this, hu]
      simp
    · obtain ⟨m, rfl⟩ : ∃ m, i = m + 1 := ⟨i - 1, by omega⟩
      rw [List.getD_cons_succ, getD_map _ _ _ (by simp; omega), reverse_getD _ _ (by omega)]
      have := atN_periods n (tones n s) hp 3 ((tones n s).length - (m + 1))
      rw [atN_low n _ ((tones n s).length - (m + 1)) (by omega)] at this
      rw [show 0 + 4 * (tones n s).length - (m + 1) = (tones n s).length - (m + 1) + 3 * (tones n s).length by omega, this]
      have e : (tones n s).getD ((tones n s).length - (m + 1)) 0 = u.getD (u.length - 1 - m) 0 := by
        rw [show (tones n s).length - (m + 1) = u.length - 1 - m + 1 by omega, hu, List.getD_cons_succ]
      rw [e]
      have := (hu' _).1 (getD_mem (show u.length - 1 - m < u.length by omega))
      omega
  · have h0' : s.testBit 0 = false := by simpa using h0
    have hcand : tones n s' = (tones n s).reverse.map (n - ·) := by
      refine rising_eqN (tones_rising n _) ?_ (fun x => ?_)
      · unfold Rising
        rw [List.pairwise_map, List.pairwise_reverse]
        refine List.Pairwise.imp_of_mem (R := fun a b : Nat => a < b) ?_ ht
        intro a b ha hb' hab
        have := hb a ha
        have := hb b hb'
        omega
      · rw [mem_tones, List.mem_map]
        constructor
        · rintro ⟨hx, hbx⟩
          rw [hs' x hx] at hbx
          by_cases hx0 : x = 0
          · rw [hx0, Nat.sub_zero, Nat.mod_self, h0'] at hbx
            simp at hbx
          · rw [Nat.mod_eq_of_lt (by omega)] at hbx
            exact ⟨n - x, List.mem_reverse.2 ((mem_tones n s (n - x)).2 ⟨by omega, hbx⟩), by omega⟩
        · rintro ⟨z, hz, rfl⟩
          have hz' := (mem_tones n s z).1 (List.mem_reverse.1 hz)
          have hz0 : z ≠ 0 := by intro e; rw [e, h0'] at hz'; simp at hz'
          refine ⟨by omega, ?_⟩
          rw [hs' (n - z) (by omega), show n - (n - z) = z by omega, Nat.mod_eq_of_lt hz'.1, hz'.2]
    have hlen : (tones n s').length = (tones n s).length := by rw [hcand]; simp
    refine turned_all hlen hp ((tones n s).length - 1) (5 * n) (fun i hi => ?_)
    rw [atN_low n _ i (by omega), hcand, getD_map _ _ _ (by simpa using hi), reverse_getD _ _ hi]
    have := atN_periods n (tones n s) hp 4 ((tones n s).length - 1 - i)
    rw [atN_low n _ ((tones n s).length - 1 - i) (by omega)] at this
    rw [show (tones n s).length - 1 + 4 * (tones n s).length - i = (tones n s).length - 1 - i + 4 * (tones n s).length by omega, this]
    have := hin ((tones n s).length - 1 - i) (by omega)
    omega

/-- The steps' sizes sum to the circle. -/
theorem span_total (n : Nat) (t : List Nat) (h : 0 < t.length) (j : Nat) : ps (fun i => (atN n t (i + j) : Int) - (atN n t i : Int)) t.length = j * n := by
  induction j with
  | zero =>
    rw [ps_congr (g := fun _ => 0) (fun i _ => by simp), ps_zero]
    simp
  | succ j ih =>
    have tele : ∀ d, ps (fun i => (atN n t (i + (j + 1)) : Int) - (atN n t (i + j) : Int)) d = (atN n t (d + j) : Int) - (atN n t j : Int) := by
      intro d
      induction d with
      | zero => simp [ps]
      | succ d ihd => rw [ps, ihd, show d + (j + 1) = d + 1 + j by omega]; omega
    have e : ps (fun i => (atN n t (i + (j + 1)) : Int) - (atN n t i : Int)) t.length = ps (fun i => (atN n t (i + j) : Int) - (atN n t i : Int)) t.length + ps (fun i => (atN n t (i + (j + 1)) : Int) - (atN n t (i + j) : Int)) t.length := by
      rw [← ps_add]
      exact ps_congr (fun i _ => by omega)
    rw [e, ih, tele, show t.length + j = j + t.length by omega, atN_period n t h]
    rw [show ((j + 1 : Nat) : Int) = (j : Int) + 1 from rfl, Int.add_mul, Int.one_mul]
    omega

end Go.Proofs.Ythbcdmbicfmeaaa.Plain
