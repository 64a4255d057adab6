/- Even scales are those of which all tones are (n i + C) / k. By lists of natural numbers alone. -/
import Derived.Test.YthbcdmbicfmeaaaTurn2
namespace Go.Proofs.Ythbcdmbicfmeaaa.Plain
open Go.Proofs.Ythbcdmbicfmeaaa.Kit

/-- Telescoping: k differences of j steps, from the i-th on. -/
theorem tele_total (A : Nat → Nat) (k n : Nat) (hper : ∀ i, A (i + k) = A i + n) (i j : Nat) : ps (fun m => (A (m + i + j) : Int) - (A (m + i) : Int)) k = j * n := by
  induction j with
  | zero =>
    rw [ps_congr (g := fun _ => 0) (fun i _ => by simp), ps_zero]
    simp
  | succ j ih =>
    have tele : ∀ d, ps (fun m => (A (m + i + (j + 1)) : Int) - (A (m + i + j) : Int)) d = (A (d + i + j) : Int) - (A (i + j) : Int) := by
      intro d
      induction d with
      | zero => simp [ps]
      | succ d ihd => rw [ps, ihd, show d + i + (j + 1) = d + 1 + i + j by omega]; omega
    have e : ps (fun m => (A (m + i + (j + 1)) : Int) - (A (m + i) : Int)) k = ps (fun m => (A (m + i + j) : Int) - (A (m + i) : Int)) k + ps (fun m => (A (m + i + (j + 1)) : Int) - (A (m + i + j) : Int)) k := by
      rw [← ps_add]
      exact ps_congr (fun i _ => by omega)
    rw [e, ih, tele, show k + i + j = i + j + k by omega, hper]
    rw [show ((j + 1 : Nat) : Int) = (j : Int) + 1 from rfl, Int.add_mul, Int.one_mul]
    omega
theorem ps_le {f : Nat → Int} : ∀ {k : Nat}, (∀ i, i < k → f i ≤ 1) → ps f k ≤ k
  | 0, _ => Int.le_refl _
  | k + 1, h => by rw [ps]; have := ps_le (k := k) (fun i hi => h i (by omega)); have := h k (by omega); omega

/-- All spans of j steps have one of two sizes side by side: how far k of them are from j circles. -/
theorem near (A : Nat → Nat) (k n : Nat) (hk : 0 < k) (hper : ∀ i, A (i + k) = A i + n) (j lo : Nat) (h : ∀ i, A i + lo ≤ A (i + j) ∧ A (i + j) ≤ A i + lo + 1) (i : Nat) :
    -(k : Int) < (k : Int) * ((A (i + j) : Int) - (A i : Int)) - j * n ∧ (k : Int) * ((A (i + j) : Int) - (A i : Int)) - j * n < k := by
  have ht := tele_total A k n hper i j
  obtain ⟨d, rfl⟩ : ∃ d, k = d + 1 := ⟨k - 1, by omega⟩
  have e : ps (fun m => (A (m + i + j) : Int) - (A (m + i) : Int)) (d + 1) = ps (fun m => (A (m + i + j) : Int) - (A (m + i) : Int) - lo) (d + 1) + ps (fun _ => (lo : Int)) (d + 1) := by
    rw [← ps_add]
    exact ps_congr (fun i _ => by omega)
  rw [ps_const] at e
  have e2 := ps_head (fun m => (A (m + i + j) : Int) - (A (m + i) : Int) - lo) d
  simp only [Nat.zero_add] at e2
  have b1 := ps_nonneg (f := fun m => (A (m + 1 + i + j) : Int) - (A (m + 1 + i) : Int) - lo) (k := d) (fun m _ => by have := (h (m + 1 + i)).1; omega)
  have b2 := ps_le (f := fun m => (A (m + 1 + i + j) : Int) - (A (m + 1 + i) : Int) - lo) (k := d) (fun m _ => by have := (h (m + 1 + i)).2; omega)
  have hi := h i
  rw [e, e2] at ht
  rcases Nat.lt_or_ge (A i + lo) (A (i + j)) with c | c
  · have : (A (i + j) : Int) - (A i : Int) = lo + 1 := by omega
    rw [this, Int.mul_add, Int.mul_one]
    rw [this] at ht
    omega
  · have : (A (i + j) : Int) - (A i : Int) = lo := by omega
    rw [this]
    rw [this] at ht
    omega

theorem has_max (D : Nat → Int) : ∀ k, 0 < k → ∃ i, i < k ∧ ∀ m, m < k → D m ≤ D i
  | 0, h => by omega
  | 1, _ => ⟨0, by omega, fun m hm => by rw [show m = 0 by omega]; exact Int.le_refl _⟩
  | k + 2, _ => by
    obtain ⟨i, h1, h2⟩ := has_max D (k + 1) (by omega)
    rcases Int.lt_or_le (D i) (D (k + 1)) with c | c
    · refine ⟨k + 1, by omega, fun m hm => ?_⟩
      by_cases e : m = k + 1
      · rw [e]; exact Int.le_refl _
      · have := h2 m (by omega); omega
    · refine ⟨i, by omega, fun m hm => ?_⟩
      by_cases e : m = k + 1
      · rw [e]; exact c
      · exact h2 m (by omega)

/-- A balanced walk is made by division. -/
theorem balanced (A : Nat → Nat) (k n : Nat) (hk : 0 < k) (hper : ∀ i, A (i + k) = A i + n) (hbal : ∀ j, 1 ≤ j → j < k → ∃ lo, ∀ i, A i + lo ≤ A (i + j) ∧ A (i + j) ≤ A i + lo + 1) :
    ∃ a i1, i1 < k ∧ a = A i1 ∧ ∀ i, A (i + i1) = a + n * i / k := by
  obtain ⟨i1, h1, h2⟩ := has_max (fun i => (k : Int) * A i - n * i) k hk
  have hD : ∀ i, (k : Int) * A (i + k) - n * ((i + k : Nat) : Int) = (k : Int) * A i - n * i := by
    intro i
    rw [hper, show ((A i + n : Nat) : Int) = (A i : Int) + n from rfl, show ((i + k : Nat) : Int) = (i : Int) + k from rfl, Int.mul_add, Int.mul_add, Int.mul_comm (n : Int) (k : Int)]
    omega
  have hlow : ∀ j, j < k → (k : Int) * A i1 - n * i1 - k < (k : Int) * A (i1 + j) - n * ((i1 + j : Nat) : Int) := by
    intro j hj
    rcases Nat.eq_zero_or_pos j with e | e
    · subst e; rw [Nat.add_zero]; omega
    · obtain ⟨lo, hlo⟩ := hbal j e hj
      have := (near A k n hk hper j lo hlo i1).1
      rw [show ((i1 + j : Nat) : Int) = (i1 : Int) + j from rfl, Int.mul_add, Int.mul_comm (n : Int) (j : Int)]
      rw [Int.mul_sub] at this
      omega
  have hhigh : ∀ j, j < k → (k : Int) * A (i1 + j) - n * ((i1 + j : Nat) : Int) ≤ (k : Int) * A i1 - n * i1 := by
    intro j hj
    by_cases c : i1 + j < k
    · exact h2 (i1 + j) c
    · have := hD (i1 + j - k)
      rw [show i1 + j - k + k = i1 + j by omega] at this
      rw [this]
      exact h2 (i1 + j - k) (by omega)
  refine ⟨A i1, i1, h1, rfl, ?_⟩
  have base : ∀ j, j < k → A (j + i1) = A i1 + n * j / k := by
    intro j hj
    have a := hlow j hj
    have b := hhigh j hj
    rw [show ((i1 + j : Nat) : Int) = (i1 : Int) + j from rfl, Int.mul_add] at a b
    rw [Nat.add_comm j i1]
    -- k (A (i1 + j) - A i1) is at most n j, and more than n j - k
    have hge : A i1 ≤ A (i1 + j) := by
      refine Nat.le_of_not_lt (fun hlt => ?_)
      have : (k : Int) * ((A (i1 + j) : Int) + 1) ≤ (k : Int) * (A i1 : Int) := Int.mul_le_mul_of_nonneg_left (by omega) (by omega)
      rw [Int.mul_add, Int.mul_one] at this
      have : (0 : Int) ≤ n * j := by exact_mod_cast Nat.zero_le (n * j)
      omega
    obtain ⟨z, hz⟩ := Nat.exists_eq_add_of_le hge
    rw [hz] at a b ⊢
    rw [show ((A i1 + z : Nat) : Int) = (A i1 : Int) + z from rfl, Int.mul_add] at a b
    have a' : n * j < k * z + k := by
      have : (n : Int) * j < (k : Int) * z + k := by omega
      exact_mod_cast this
    have b' : k * z ≤ n * j := by
      have : (k : Int) * z ≤ (n : Int) * j := by omega
      exact_mod_cast this
    have : n * j / k = z := by
      refine Nat.div_eq_of_lt_le ?_ ?_
      · rw [Nat.mul_comm]; exact b'
      · rw [Nat.succ_mul, Nat.mul_comm z]; exact a'
    rw [this]
  intro i
  have per : ∀ m i, A (i + m * k) = A i + m * n := by
    intro m
    induction m with
    | zero => intro i; simp
    | succ m ih => intro i; rw [Nat.succ_mul, ← Nat.add_assoc, hper, ih, Nat.succ_mul]; omega
  have hm : i % k < k := Nat.mod_lt _ hk
  have e1 : i % k + i / k * k = i := by rw [Nat.mul_comm]; have := Nat.div_add_mod i k; omega
  have p1 := per (i / k) (i % k + i1)
  rw [show i % k + i1 + i / k * k = i + i1 by omega, base (i % k) hm] at p1
  rw [p1]
  have e2 : n * i / k = n * (i % k) / k + i / k * n := by
    have e3 : n * i = n * (i % k) + (i / k * n) * k := by
      conv => lhs; rw [← e1]
      rw [Nat.mul_add]
      congr 1
      rw [Nat.mul_comm n, Nat.mul_assoc, Nat.mul_assoc, Nat.mul_comm k n]
    rw [e3, Nat.add_mul_div_right _ _ hk]
  omega

/-! ### even scales -/
theorem ok_bounds {z : List Nat} (hz : Rising z) (h0 : 0 < z.length) (ok : okN z = true) (x : Nat) (hx : x ∈ z) : z.getD 0 0 ≤ x ∧ x ≤ z.getD 0 0 + 1 := by
  rw [ok_rising z hz h0] at ok
  have ok := of_decide_eq_true ok
  obtain ⟨i, hi, rfl⟩ := List.mem_iff_getElem.1 hx
  have e : z[i] = z.getD i 0 := by rw [List.getD_eq_getElem?_getD, List.getElem?_eq_getElem hi]; rfl
  rw [e]
  have a : z.getD 0 0 ≤ z.getD i 0 := by
    rcases Nat.eq_zero_or_pos i with h | h
    · rw [h]; exact Nat.le_refl _
    · exact Nat.le_of_lt (rising_get hz h hi)
  have b : z.getD i 0 ≤ z.getD (z.length - 1) 0 := by
    rcases Nat.lt_or_ge i (z.length - 1) with h | h
    · exact Nat.le_of_lt (rising_get hz h (by omega))
    · rw [show i = z.length - 1 by omega]; exact Nat.le_refl _
  omega
theorem mem_sizes {n : Nat} {t : List Nat} (ht : Rising t) (hb : ∀ x, x ∈ t → x < n) {j : Nat} (hj0 : 1 ≤ j) (hj : j < t.length) (x : Nat) : x ∈ sizes n t j ↔ ∃ i, x = atN n t (i + j) - atN n t i := by
  unfold sizes
  rw [presentFrom_mem, ← mem_raw n t (by omega)]
  constructor
  · exact fun h => h.2.2
  · intro h; exact ⟨by omega, by have := raw_lt ht hb hj0 hj x h; omega, h⟩
theorem evenFrom_all {n : Nat} {t : List Nat} : ∀ (d j : Nat), evenFrom n t j d = true ↔ ∀ i, j ≤ i → i < j + d → okN (sizes n t i) = true
  | 0, j => by simp [evenFrom]; omega
  | d + 1, j => by
    unfold evenFrom
    by_cases h : okN (sizes n t j) = true
    · rw [if_pos h, evenFrom_all d (j + 1)]
      constructor
      · intro g i h1 h2
        by_cases e : i = j
        · rw [e]; exact h
        · exact g i (by omega) (by omega)
      · intro g i h1 h2; exact g i (by omega) (by omega)
    · rw [if_neg h]
      constructor
      · intro g; simp at g
      · intro g; exact absurd (g j (Nat.le_refl _) (by omega)) h

/-- A list is spread: from some place on its tones are those of division. -/
theorem spread_of_even {n : Nat} {t : List Nat} (ht : Rising t) (hb : ∀ x, x ∈ t → x < n) (hp : 0 < t.length) (he : evenFrom n t 1 (t.length - 1) = true) :
    ∃ a i1, i1 < t.length ∧ a = atN n t i1 ∧ ∀ i, atN n t (i + i1) = a + n * i / t.length := by
  refine balanced (atN n t) t.length n hp (atN_period n t hp) (fun j hj0 hj => ?_)
  have ok := (evenFrom_all (t.length - 1) 1).1 he j hj0 (by omega)
  refine ⟨(sizes n t j).getD 0 0, fun i => ?_⟩
  have hm := (mem_sizes ht hb hj0 hj (atN n t (i + j) - atN n t i)).2 ⟨i, rfl⟩
  have hr : Rising (sizes n t j) := presentFrom_rising _ _ _
  have := ok_bounds hr (sizes_ne ht hb hj0 hj) ok _ hm
  have := atN_mono n t ht hb hp i j
  omega
/-- The other way round. -/
theorem even_of_spread {n : Nat} {t : List Nat} (ht : Rising t) (hb : ∀ x, x ∈ t → x < n) (hp : 0 < t.length) (C : Nat) (h : ∀ i, i < t.length → t.getD i 0 = (n * i + C) / t.length) :
    evenFrom n t 1 (t.length - 1) = true := by
  have hall : ∀ i, atN n t i = (n * i + C) / t.length := by
    intro i
    unfold atN
    have hm : i % t.length < t.length := Nat.mod_lt _ hp
    have e1 : i % t.length + i / t.length * t.length = i := by rw [Nat.mul_comm]; have := Nat.div_add_mod i t.length; omega
    rw [h _ hm]
    have e3 : n * i + C = n * (i % t.length) + C + (i / t.length * n) * t.length := by
      conv => lhs; rw [← e1]
      rw [Nat.mul_add, show n * (i / t.length * t.length) = i / t.length * n * t.length by rw [Nat.mul_comm n, Nat.mul_assoc, Nat.mul_assoc, Nat.mul_comm t.length n]]
      omega
    rw [e3, Nat.add_mul_div_right _ _ hp]
  refine (evenFrom_all (t.length - 1) 1).2 (fun j hj0 hj => ?_)
  have hr : Rising (sizes n t j) := presentFrom_rising _ _ _
  rw [ok_rising _ hr (sizes_ne ht hb hj0 (by omega))]
  have hne := sizes_ne ht hb hj0 (show j < t.length by omega)
  have key : ∀ x, x ∈ sizes n t j → n * j / t.length ≤ x ∧ x ≤ n * j / t.length + 1 := by
    intro x hx
    obtain ⟨i, rfl⟩ := (mem_sizes ht hb hj0 (by omega) x).1 hx
    rw [hall, hall, Nat.mul_add]
    generalize n * i = u
    generalize n * j = v
    have d1 := Nat.div_add_mod (u + C) t.length
    have d2 := Nat.div_add_mod v t.length
    have d3 := Nat.div_add_mod (u + v + C) t.length
    have m1 := Nat.mod_lt (u + C) hp
    have m2 := Nat.mod_lt v hp
    have m3 := Nat.mod_lt (u + v + C) hp
    generalize (u + C) / t.length = a at *
    generalize v / t.length = b at *
    generalize (u + v + C) / t.length = c at *
    generalize t.length = K at *
    have l1 : a + b ≤ c := by
      refine Nat.le_of_not_lt (fun hlt => ?_)
      have : K * (c + 1) ≤ K * (a + b) := Nat.mul_le_mul_left K hlt
      rw [Nat.mul_add, Nat.mul_add] at this
      omega
    have l2 : c ≤ a + b + 1 := by
      refine Nat.le_of_not_lt (fun hlt => ?_)
      have : K * (a + b + 1 + 1) ≤ K * c := Nat.mul_le_mul_left K hlt
      rw [Nat.mul_add, Nat.mul_add, Nat.mul_add] at this
      omega
    omega
  have k0 := key _ (getD_mem hne)
  have k1 := key _ (getD_mem (show (sizes n t j).length - 1 < (sizes n t j).length by omega))
  exact decide_eq_true (by omega)

end Go.Proofs.Ythbcdmbicfmeaaa.Plain
