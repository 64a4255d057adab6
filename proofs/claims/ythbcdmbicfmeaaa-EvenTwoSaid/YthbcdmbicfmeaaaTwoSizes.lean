/- Scales with the two sizes: even ones without a factor in common have them; those that have them are made by a step. By natural numbers alone. -/
import Derived.Test.YthbcdmbicfmeaaaBalanced
namespace Go.Proofs.Ythbcdmbicfmeaaa.Plain
open Go.Proofs.Ythbcdmbicfmeaaa.Kit

theorem twoFrom_all {n : Nat} {t : List Nat} : ∀ (d j : Nat), twoFrom n t j d = true ↔ ∀ i, j ≤ i → i < j + d → (sizes n t i).length = 2
  | 0, j => by simp [twoFrom]; omega
  | d + 1, j => by
    unfold twoFrom
    by_cases h : (sizes n t j).length = 2
    · rw [if_pos h, twoFrom_all d (j + 1)]
      constructor
      · intro g i h1 h2
        by_cases e : i = j
        · rw [e]; exact h
        · exact g i (by omega) (by omega)
      · intro g i h1 h2; exact g i (by omega) (by omega)
    · rw [if_neg h]
      constructor
      · intro g; simp at g
      · intro g; exact absurd (g j (Nat.le_refl _) (by omega)) h

/-- All spans of j steps are the same: then so many circles are so many of them. -/
theorem same_spans (A : Nat → Nat) (k n : Nat) (hper : ∀ i, A (i + k) = A i + n) (j x : Nat) (h : ∀ i, A (i + j) = A i + x) : k * x = j * n := by
  have ht := tele_total A k n hper 0 j
  rw [ps_congr (g := fun _ => (x : Int)) (fun i _ => by have := h (i + 0); omega), ps_const] at ht
  exact_mod_cast ht

theorem even_two (n : Nat) (t : List Nat) (ht : Rising t) (hb : ∀ x, x ∈ t → x < n) (hp : 1 < t.length) (hg : Nat.gcd n t.length = 1) (he : evenFrom n t 1 (t.length - 1) = true) : twoFrom n t 1 (t.length - 1) = true := by
  refine (twoFrom_all (t.length - 1) 1).2 (fun j hj0 hj => ?_)
  have ok := (evenFrom_all (t.length - 1) 1).1 he j hj0 hj
  have hne := sizes_ne ht hb hj0 (show j < t.length by omega)
  have hle : ¬ (sizes n t j).length > 2 := by
    intro h
    unfold okN at ok
    rw [if_pos h] at ok
    simp at ok
  refine Decidable.byContradiction (fun h2 => ?_)
  obtain ⟨x, hx⟩ := List.length_eq_one_iff.1 (show (sizes n t j).length = 1 by omega)
  have hs := same_spans (atN n t) t.length n (atN_period n t (by omega)) j x (fun i => by
    have hm := (mem_sizes ht hb hj0 (by omega) (atN n t (i + j) - atN n t i)).2 ⟨i, rfl⟩
    rw [hx, List.mem_singleton] at hm
    have := atN_mono n t ht hb (by omega) i j
    omega)
  have hd : t.length ∣ j * n := ⟨x, hs.symm⟩
  have hc : Nat.Coprime t.length n := by unfold Nat.Coprime; rw [Nat.gcd_comm]; exact hg
  have := Nat.le_of_dvd (by omega) (hc.dvd_of_dvd_mul_right hd)
  omega

/-- By the kernel: what has no factor in common has an inverse. -/
def invOk (k w : Nat) : Bool := (List.range k).any (fun j => decide (1 ≤ j) && w * j % k == 0) || (List.range k).any (fun h => decide (1 ≤ h) && w * h % k == 1)
theorem invOk_all : allBelow (fun k => allBelow (fun w => invOk (k + 2) w) (k + 2)) 15 = true := by decide +kernel
theorem inverse (k w : Nat) (hk2 : 2 ≤ k) (hk : k ≤ 16) (h : ∀ j, 1 ≤ j → j < k → w * j % k ≠ 0) : ∃ h', 1 ≤ h' ∧ h' < k ∧ w * h' % k = 1 := by
  have hm : w % k < k := Nat.mod_lt _ (by omega)
  have a := allBelow_spec (allBelow_spec invOk_all (k - 2) (by omega)) (w % k) (by omega)
  rw [show k - 2 + 2 = k by omega] at a
  unfold invOk at a
  rw [Bool.or_eq_true, List.any_eq_true, List.any_eq_true] at a
  rcases a with ⟨j, hj, hj2⟩ | ⟨j, hj, hj2⟩
  · rw [Bool.and_eq_true, decide_eq_true_eq, beq_iff_eq, Nat.mod_mul_mod] at hj2
    exact absurd hj2.2 (h j hj2.1 (List.mem_range.1 hj))
  · rw [Bool.and_eq_true, decide_eq_true_eq, beq_iff_eq, Nat.mod_mul_mod] at hj2
    exact ⟨j, hj2.1, List.mem_range.1 hj, hj2.2⟩

theorem madeFrom_bit (n c g y : Nat) : ∀ (d i acc : Nat), (madeFrom n c g i d acc).testBit y = true ↔ acc.testBit y = true ∨ ∃ q, i ≤ q ∧ q < i + d ∧ (c + q * g) % n = y
  | 0, i, acc => by
    simp only [madeFrom]
    constructor
    · exact .inl
    · rintro (h | ⟨q, h1, h2, _⟩)
      · exact h
      · omega
  | d + 1, i, acc => by
    rw [madeFrom, madeFrom_bit n c g y d (i + 1), Nat.testBit_or, Bool.or_eq_true, Nat.testBit_two_pow, decide_eq_true_eq]
    constructor
    · rintro ((h | h) | ⟨q, h1, h2, h3⟩)
      · exact .inl h
      · exact .inr ⟨i, Nat.le_refl _, by omega, h⟩
      · exact .inr ⟨q, by omega, by omega, h3⟩
    · rintro (h | ⟨q, h1, h2, h3⟩)
      · exact .inl (.inl h)
      · by_cases e : q = i
        · subst e; exact .inl (.inr h3)
        · exact .inr ⟨q, by omega, by omega, h3⟩
theorem madeFrom_lt (n c g : Nat) (hn : 0 < n) : ∀ (d i acc : Nat), acc < 2 ^ n → madeFrom n c g i d acc < 2 ^ n
  | 0, _, _, h => h
  | d + 1, i, acc, h => madeFrom_lt n c g hn d (i + 1) _ (Nat.or_lt_two_pow h (Nat.pow_lt_pow_right (by decide) (Nat.mod_lt _ hn)))
theorem anyMade_of (n s g k c : Nat) (hm : made n c g k = s) : ∀ t : List Nat, c ∈ t → anyMade n s g k t = true
  | [], h => by simp at h
  | x :: t, h => by
    unfold anyMade
    by_cases e : made n x g k = s
    · rw [if_pos e]
    · rw [if_neg e]
      rcases List.mem_cons.1 h with h | h
      · subst h; exact absurd hm e
      · exact anyMade_of n s g k c hm t h
theorem makerFrom_of (n s k : Nat) (t : List Nat) (g : Nat) (ha : anyMade n s g k t = true) : ∀ (d i : Nat), i ≤ g → g < i + d → ∃ g', makerFrom n s k t i d = some g' ∧ i ≤ g' ∧ g' < i + d
  | 0, i, h1, h2 => by omega
  | d + 1, i, h1, h2 => by
    unfold makerFrom
    by_cases e : anyMade n s i k t = true
    · rw [if_pos e]; exact ⟨i, rfl, Nat.le_refl _, by omega⟩
    · rw [if_neg e]
      have hne : i ≠ g := by intro h; subst h; exact e ha
      obtain ⟨g', h3, h4, h5⟩ := makerFrom_of n s k t g ha d (i + 1) (by omega) (by omega)
      exact ⟨g', h3, by omega, by omega⟩

theorem len_two {l : List Nat} (h : l.length = 2) : ∃ a b, l = [a, b] := by
  match l, h with
  | [a, b], _ => exact ⟨a, b, rfl⟩
/-- How many of the first i steps are great ones. -/
def great (n : Nat) (t : List Nat) (q : Nat) : Nat → Nat
  | 0 => 0
  | i + 1 => great n t q i + (if atN n t (i + 1) = atN n t i + q then 1 else 0)

theorem div_walk (k w u v : Nat) (hk : 0 < k) (hv : v % k = 0) : (u + v) / k = u / k + v / k := by
  have _ := w
  obtain ⟨z, rfl⟩ := Nat.dvd_of_mod_eq_zero hv
  rw [Nat.mul_comm k z, Nat.add_mul_div_right _ _ hk, Nat.mul_div_cancel _ hk]

/-- A scale with the two sizes is made by a step. -/
theorem two_made (n s : Nat) (hn : 2 ≤ n) (hn16 : n ≤ 16) (hs : s < 2 ^ n) (hp : 1 < (tones n s).length) (h2 : twoFrom n (tones n s) 1 ((tones n s).length - 1) = true) : ∃ g, maker n s = some g ∧ 1 ≤ g ∧ g < n := by
  have ht := tones_rising n s
  have hb := tones_bound n s
  have hlen := tones_length n s
  have hmemt := mem_tones n s
  unfold maker
  generalize htt : tones n s = t at *
  have hp0 : 0 < t.length := by omega
  have hk2 : 2 ≤ t.length := hp
  have two : ∀ j, 1 ≤ j → j < t.length → (sizes n t j).length = 2 := fun j a b => (twoFrom_all (t.length - 1) 1).1 h2 j a (by omega)
  have hper := atN_period n t hp0
  -- the two sizes of a step
  obtain ⟨p, q, hpq⟩ := len_two (two 1 (Nat.le_refl _) hp)
  have hlt : p < q := by
    have hr : Rising (sizes n t 1) := presentFrom_rising _ _ _
    rw [hpq] at hr
    exact (List.pairwise_cons.1 hr).1 q List.mem_cons_self
  have step : ∀ i, atN n t (i + 1) = atN n t i + p ∨ atN n t (i + 1) = atN n t i + q := by
    intro i
    have hm := (mem_sizes ht hb (Nat.le_refl 1) hp (atN n t (i + 1) - atN n t i)).2 ⟨i, rfl⟩
    have := atN_lt_succ n t ht hb hp0 i
    rw [hpq] at hm
    simp only [List.mem_cons, List.not_mem_nil, or_false] at hm
    omega
  obtain ⟨e, rfl⟩ : ∃ e, q = p + e := ⟨q - p, by omega⟩
  have he0 : 0 < e := by omega
  -- the walk, told by its great steps
  have walk : ∀ i, atN n t i = atN n t 0 + p * i + e * great n t (p + e) i := by
    intro i
    induction i with
    | zero => simp [great]
    | succ i ih =>
      rw [great, Nat.mul_add, Nat.mul_add, Nat.mul_one]
      rcases step i with c | c
      · rw [if_neg (by omega), c, ih]; omega
      · rw [if_pos c, c, ih]; omega
  have wstep : ∀ i, great n t (p + e) (i + 1) = great n t (p + e) i ∨ great n t (p + e) (i + 1) = great n t (p + e) i + 1 := by
    intro i
    rw [great]
    split
    · exact .inr rfl
    · exact .inl rfl
  have wmono : ∀ i j, great n t (p + e) i ≤ great n t (p + e) (i + j) := by
    intro i j
    induction j with
    | zero => exact Nat.le_refl _
    | succ j ih => have := wstep (i + j); rw [← Nat.add_assoc]; omega
  generalize hW : great n t (p + e) = W at *
  have wper : ∀ i, W (i + t.length) = W i + W t.length := by
    intro i
    have a := walk (i + t.length)
    have b := walk i
    have c := walk t.length
    have d0 := hper i
    have d1 := hper 0
    rw [Nat.zero_add] at d1
    rw [Nat.mul_add] at a
    have hmul : e * W (i + t.length) = e * (W i + W t.length) := by rw [Nat.mul_add]; omega
    exact Nat.eq_of_mul_eq_mul_left he0 hmul
  -- spans, by the great steps in them
  have span : ∀ i j, atN n t (i + j) = atN n t i + p * j + e * (W (i + j) - W i) := by
    intro i j
    have a := walk (i + j)
    have b := walk i
    have c := wmono i j
    rw [Nat.mul_add] at a
    rw [Nat.mul_sub]
    have := Nat.mul_le_mul_left e c
    omega
  have wbal : ∀ j, 1 ≤ j → j < t.length → ∃ lo, ∀ i, W i + lo ≤ W (i + j) ∧ W (i + j) ≤ W i + lo + 1 := by
    intro j hj0 hj
    obtain ⟨u, v, huv⟩ := len_two (two j hj0 hj)
    have hlt2 : u < v := by
      have hr : Rising (sizes n t j) := presentFrom_rising _ _ _
      rw [huv] at hr
      exact (List.pairwise_cons.1 hr).1 v List.mem_cons_self
    have cases2 : ∀ i, p * j + e * (W (i + j) - W i) = u ∨ p * j + e * (W (i + j) - W i) = v := by
      intro i
      have hm := (mem_sizes ht hb hj0 hj (atN n t (i + j) - atN n t i)).2 ⟨i, rfl⟩
      have := span i j
      rw [huv] at hm
      simp only [List.mem_cons, List.not_mem_nil, or_false] at hm
      omega
    have move : ∀ i, W (i + 1 + j) - W (i + 1) ≤ W (i + j) - W i + 1 ∧ W (i + j) - W i ≤ W (i + 1 + j) - W (i + 1) + 1 := by
      intro i
      have a := wstep i
      have b := wstep (i + j)
      rw [show i + 1 + j = i + j + 1 by omega]
      have := wmono i j
      have := wmono (i + 1) j
      rw [show i + 1 + j = i + j + 1 by omega] at this
      omega
    by_cases hone : v = u + e
    · -- the lower one of both counts
      by_cases hx : ∃ i0, p * j + e * (W (i0 + j) - W i0) = u
      · obtain ⟨i0, hi0⟩ := hx
        refine ⟨W (i0 + j) - W i0, fun i => ?_⟩
        have hc := cases2 i
        have hm := wmono i j
        generalize W (i0 + j) - W i0 = lo at *
        rcases hc with hc | hc
        · have : e * (W (i + j) - W i) = e * lo := by omega
          have := Nat.eq_of_mul_eq_mul_left he0 this
          omega
        · have : e * (W (i + j) - W i) = e * (lo + 1) := by rw [Nat.mul_add, Nat.mul_one]; omega
          have := Nat.eq_of_mul_eq_mul_left he0 this
          omega
      · refine ⟨W (0 + j) - W 0, fun i => ?_⟩
        have a : p * j + e * (W (0 + j) - W 0) = v := (cases2 0).resolve_left (fun h => hx ⟨0, h⟩)
        have b : p * j + e * (W (i + j) - W i) = v := (cases2 i).resolve_left (fun h => hx ⟨i, h⟩)
        have hm := wmono i j
        have : e * (W (i + j) - W i) = e * (W (0 + j) - W 0) := by omega
        have := Nat.eq_of_mul_eq_mul_left he0 this
        omega
    · -- they do not lie side by side: then all are the same
      have const : ∀ i, W (i + j) - W i = W (0 + j) - W 0 := by
        intro i
        induction i with
        | zero => rfl
        | succ i ih =>
          rw [← ih]
          have a := cases2 i
          have b := cases2 (i + 1)
          have m := move i
          generalize W (i + 1 + j) - W (i + 1) = y at *
          generalize W (i + j) - W i = x at *
          rcases Nat.lt_trichotomy x y with c | c | c
          · have hy : y = x + 1 := by omega
            rw [hy, Nat.mul_add, Nat.mul_one] at b
            omega
          · exact c.symm
          · have hx : x = y + 1 := by omega
            rw [hx, Nat.mul_add, Nat.mul_one] at a
            omega
      refine ⟨W (0 + j) - W 0, fun i => ?_⟩
      have := const i
      have := wmono i j
      omega
  obtain ⟨a, i1, hi1, ha, hWd⟩ := balanced W t.length (W t.length) hp0 wper wbal
  -- no factor in common
  have nofac : ∀ j, 1 ≤ j → j < t.length → W t.length * j % t.length ≠ 0 := by
    intro j hj0 hj hz
    have const : ∀ i, atN n t (i + i1 + j) = atN n t (i + i1) + (p * j + e * (W t.length * j / t.length)) := by
      intro i
      rw [span (i + i1) j, show i + i1 + j = i + j + i1 by omega, hWd, hWd, Nat.mul_add, div_walk t.length 0 _ _ hp0 hz]
      have : a + (W t.length * i / t.length + W t.length * j / t.length) - (a + W t.length * i / t.length) = W t.length * j / t.length := by
        generalize W t.length * i / t.length = y1
        generalize W t.length * j / t.length = y2
        omega
      rw [this]
      omega
    obtain ⟨u, v, huv⟩ := len_two (two j hj0 hj)
    have hlt2 : u < v := by
      have hr : Rising (sizes n t j) := presentFrom_rising _ _ _
      rw [huv] at hr
      exact (List.pairwise_cons.1 hr).1 v List.mem_cons_self
    have all : ∀ x, x ∈ sizes n t j → x = p * j + e * (W t.length * j / t.length) := by
      intro x hx
      obtain ⟨i, rfl⟩ := (mem_sizes ht hb hj0 hj x).1 hx
      have hc : i1 ≤ i1 * t.length := Nat.le_mul_of_pos_right i1 hp0
      have c := const (i + (i1 * t.length - i1))
      rw [show i + (i1 * t.length - i1) + i1 + j = i + j + i1 * t.length by omega, show i + (i1 * t.length - i1) + i1 = i + i1 * t.length by omega, atN_periods n t hp0, atN_periods n t hp0] at c
      omega
    generalize W t.length * j / t.length = y2 at all
    have h3 := all u (by rw [huv]; exact List.mem_cons_self)
    have h4 := all v (by rw [huv]; exact List.mem_cons_of_mem _ List.mem_cons_self)
    omega
  obtain ⟨h', hh1, hh2, hh3⟩ := inverse t.length (W t.length) hk2 (by omega) nofac
  -- the walk by h' steps
  have hz := Nat.div_add_mod (W t.length * h') t.length
  rw [hh3] at hz
  generalize hzz : W t.length * h' / t.length = z at hz
  have byh : ∀ m, m < t.length → atN n t (m * h' + i1) = atN n t i1 + m * (p * h' + e * z) := by
    intro m hm
    have hw : W (m * h' + i1) = a + m * z := by
      rw [hWd]
      have : W t.length * (m * h') = m + (m * z) * t.length := by
        rw [Nat.mul_left_comm, ← hz, Nat.mul_add, Nat.mul_one, Nat.mul_comm t.length z, Nat.mul_assoc]
        omega
      rw [this, Nat.add_mul_div_right _ _ hp0, Nat.div_eq_of_lt hm]
      omega
    have hw0 : W i1 = a := ha.symm
    have := span i1 (m * h')
    rw [Nat.add_comm i1 (m * h'), hw, hw0] at this
    rw [this, Nat.mul_add, Nat.mul_left_comm m p h', show a + m * z - a = m * z by omega, Nat.mul_left_comm m e z]
    omega
  have hg := byh 1 hp
  rw [Nat.one_mul, Nat.one_mul] at hg
  have hsz := span_size ht hb hi1 hh1 (Nat.le_of_lt hh2)
  rw [Nat.add_comm i1 h', hg] at hsz
  generalize hG : p * h' + e * z = g at *
  have hlow := atN_low n t i1 hi1
  have hmade : made n (t.getD i1 0) g t.length = s := by
    have hml : made n (t.getD i1 0) g t.length < 2 ^ n := madeFrom_lt n _ g (by omega) _ 0 0 (Nat.two_pow_pos n)
    apply Nat.eq_of_testBit_eq
    intro x
    by_cases hx : x < n
    · rw [Bool.eq_iff_iff]
      unfold made
      rw [madeFrom_bit]
      have hm := hmemt x
      constructor
      · rintro (h | ⟨m, _, hm2, hm3⟩)
        · simp at h
        · rw [← hlow, ← byh m (by omega)] at hm3
          refine (hm.1 ?_).2
          rw [← hm3]
          unfold atN
          rw [Nat.add_mul_mod_self_right, Nat.mod_eq_of_lt (hb _ (getD_mem (Nat.mod_lt _ hp0)))]
          exact getD_mem (Nat.mod_lt _ hp0)
      · intro hbx
        right
        have hxt := hm.2 ⟨hx, hbx⟩
        obtain ⟨i, hi, hie⟩ := List.mem_iff_getElem.1 hxt
        -- the place i is reached by m times h' steps
        have hc : i1 ≤ i1 * t.length := Nat.le_mul_of_pos_right i1 hp0
        let i' := i + (i1 * t.length - i1)
        have hi' : i' + i1 = i + i1 * t.length := by show i + (i1 * t.length - i1) + i1 = _; omega
        refine ⟨W t.length * i' % t.length, by omega, by have := Nat.mod_lt (W t.length * i') hp0; omega, ?_⟩
        rw [← hlow, ← byh _ (Nat.mod_lt _ hp0)]
        have hmod : (W t.length * i' % t.length * h' + i1) % t.length = i := by
          have e1 : (W t.length * i' % t.length * h' + i1) % t.length = (i' + i1) % t.length := by
            rw [Nat.add_mod, Nat.mod_mul_mod, show W t.length * i' * h' = W t.length * h' * i' by rw [Nat.mul_assoc, Nat.mul_comm i' h', ← Nat.mul_assoc], Nat.mul_mod, hh3, Nat.one_mul, Nat.mod_mod, ← Nat.add_mod]
          rw [e1, hi', Nat.add_mul_mod_self_right, Nat.mod_eq_of_lt hi]
        unfold atN
        rw [Nat.add_mul_mod_self_right, hmod]
        have e2 : t.getD i 0 = x := by rw [List.getD_eq_getElem?_getD, List.getElem?_eq_getElem hi]; exact hie
        rw [e2]
        exact Nat.mod_eq_of_lt hx
    · rw [Nat.testBit_lt_two_pow (Nat.lt_of_lt_of_le hml (Nat.pow_le_pow_right (by decide) (by omega))), Nat.testBit_lt_two_pow (Nat.lt_of_lt_of_le hs (Nat.pow_le_pow_right (by decide) (by omega)))]
  have hany := anyMade_of n s g t.length (t.getD i1 0) hmade t (getD_mem hi1)
  obtain ⟨g', h3, h4, h5⟩ := makerFrom_of n s t.length t g hany (n - 1) 1 (by omega) (by have := hsz.2.2 hh2; omega)
  exact ⟨g', h3, h4, by omega⟩

end Go.Proofs.Ythbcdmbicfmeaaa.Plain
