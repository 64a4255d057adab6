/- A scale moved, or turned: its spans are the same. By lists of natural numbers alone. -/
import Derived.Test.YthbcdmbicfmeaaaPlain2
namespace Go.Proofs.Ythbcdmbicfmeaaa.Plain
open Go.Proofs.Ythbcdmbicfmeaaa.Kit

theorem rising_eqN : ∀ {l m : List Nat}, Rising l → Rising m → (∀ x, x ∈ l ↔ x ∈ m) → l = m := by
  intro l m hl hm h
  refine toI_inj (rising_eq (toI_rising hl) (toI_rising hm) (fun x => ?_))
  rw [mem_toI, mem_toI]
  constructor
  · rintro ⟨y, hy, e⟩; exact ⟨y, (h y).1 hy, e⟩
  · rintro ⟨y, hy, e⟩; exact ⟨y, (h y).2 hy, e⟩
theorem mem_tones (n s x : Nat) : x ∈ tones n s ↔ x < n ∧ s.testBit x = true := by
  have key : ∀ (d i : Nat), x ∈ tonesFrom s i d ↔ i ≤ x ∧ x < i + d ∧ s.testBit x = true := by
    intro d
    induction d with
    | zero => intro i; simp [tonesFrom]; omega
    | succ d ih =>
      intro i
      unfold tonesFrom
      rw [List.mem_append, ih (i + 1)]
      by_cases e : x = i
      · subst e
        cases s.testBit x <;> simp
      · cases hb : s.testBit i <;> cases hx : s.testBit x <;> simp [e] <;> omega
  unfold tones
  rw [key n 0]
  simp

theorem atN_period (n : Nat) (t : List Nat) (h : 0 < t.length) (i : Nat) : atN n t (i + t.length) = atN n t i + n := by
  unfold atN
  rw [Nat.add_mod_right, Nat.add_div_right i h, Nat.succ_mul]
  omega
theorem atN_periods (n : Nat) (t : List Nat) (h : 0 < t.length) (m : Nat) : ∀ i, atN n t (i + m * t.length) = atN n t i + m * n := by
  induction m with
  | zero => intro i; simp
  | succ m ih =>
    intro i
    rw [Nat.succ_mul, ← Nat.add_assoc, atN_period n t h, ih, Nat.succ_mul]
    omega
theorem atN_lt_succ (n : Nat) (t : List Nat) (ht : Rising t) (hb : ∀ x, x ∈ t → x < n) (h : 0 < t.length) (i : Nat) : atN n t i < atN n t (i + 1) := by
  have hi : i % t.length < t.length := Nat.mod_lt _ h
  have e := Nat.div_add_mod i t.length
  have := (span_size ht hb hi (Nat.le_refl 1) h).1
  have h1 := atN_periods n t h (i / t.length) (i % t.length)
  have h2 := atN_periods n t h (i / t.length) (i % t.length + 1)
  have e1 : i % t.length + i / t.length * t.length = i := by rw [Nat.mul_comm]; omega
  have e2 : i % t.length + 1 + i / t.length * t.length = i + 1 := by rw [Nat.mul_comm]; omega
  rw [e1] at h1
  rw [e2] at h2
  omega
theorem atN_mono (n : Nat) (t : List Nat) (ht : Rising t) (hb : ∀ x, x ∈ t → x < n) (h : 0 < t.length) (i : Nat) : ∀ d, atN n t i ≤ atN n t (i + d)
  | 0 => Nat.le_refl _
  | d + 1 => Nat.le_trans (atN_mono n t ht hb h i d) (Nat.le_of_lt (atN_lt_succ n t ht hb h (i + d)))

theorem rawFrom_of (n : Nat) (t : List Nat) (j a : Nat) : ∀ (d i : Nat), i ≤ a → a < i + d → atN n t (a + j) - atN n t a ∈ rawFrom n t j i d
  | 0, i, h1, h2 => by omega
  | d + 1, i, h1, h2 => by
    by_cases e : a = i
    · subst e; exact List.mem_cons_self
    · exact List.mem_cons_of_mem _ (rawFrom_of n t j a d (i + 1) (by omega) (by omega))
/-- The sizes of the spans, at whatever place they begin. -/
theorem mem_raw (n : Nat) (t : List Nat) (h : 0 < t.length) (j x : Nat) : x ∈ raw n t j ↔ ∃ i, x = atN n t (i + j) - atN n t i := by
  constructor
  · intro hx
    obtain ⟨a, _, _, e⟩ := rawFrom_mem n t j x t.length 0 hx
    exact ⟨a, e⟩
  · rintro ⟨i, rfl⟩
    have hi : i % t.length < t.length := Nat.mod_lt _ h
    have e1 : i % t.length + i / t.length * t.length = i := by rw [Nat.mul_comm]; have := Nat.div_add_mod i t.length; omega
    have e2 : i % t.length + j + i / t.length * t.length = i + j := by omega
    have h1 := atN_periods n t h (i / t.length) (i % t.length)
    have h2 := atN_periods n t h (i / t.length) (i % t.length + j)
    rw [e1] at h1
    rw [e2] at h2
    have := rawFrom_of n t j (i % t.length) t.length 0 (by omega) (by omega)
    rw [h1, h2, show atN n t (i % t.length + j) + i / t.length * n - (atN n t (i % t.length) + i / t.length * n) = atN n t (i % t.length + j) - atN n t (i % t.length) by omega]
    exact this

theorem presentFrom_congr {l m : List Nat} (h : ∀ x, x ∈ l ↔ x ∈ m) : ∀ (d x : Nat), presentFrom l x d = presentFrom m x d
  | 0, _ => rfl
  | d + 1, x => by
    unfold presentFrom
    have e : memB x l = memB x m := by rw [Bool.eq_iff_iff, memB_iff, memB_iff]; exact h x
    rw [e, presentFrom_congr h d (x + 1)]

/-- The same tones, counted from another one, and moved. -/
structure Moved (n : Nat) (t t' : List Nat) : Prop where
  len : t'.length = t.length
  pos : 0 < t.length
  shift : ∃ c e e', ∀ i, atN n t' i + e = atN n t (i + c) + e'
theorem Moved.sizes {n : Nat} {t t' : List Nat} (m : Moved n t t') (j : Nat) : sizes n t' j = sizes n t j := by
  obtain ⟨c, e, e', h⟩ := m.shift
  have hp' : 0 < t'.length := by rw [m.len]; exact m.pos
  refine presentFrom_congr (fun x => ?_) n 0
  rw [mem_raw n t' hp', mem_raw n t m.pos]
  constructor
  · rintro ⟨i, rfl⟩
    refine ⟨i + c, ?_⟩
    have h1 := h i
    have h2 := h (i + j)
    rw [show i + c + j = i + j + c by omega]
    omega
  · rintro ⟨i, rfl⟩
    have hc : c ≤ c * t.length := Nat.le_mul_of_pos_right c m.pos
    refine ⟨i + (c * t.length - c), ?_⟩
    have h1 := h (i + (c * t.length - c))
    have h2 := h (i + (c * t.length - c) + j)
    have p1 := atN_periods n t m.pos c i
    have p2 := atN_periods n t m.pos c (i + j)
    rw [show i + (c * t.length - c) + c = i + c * t.length by omega, p1] at h1
    rw [show i + (c * t.length - c) + j + c = i + j + c * t.length by omega, p2] at h2
    omega
theorem Moved.trans {n : Nat} {t u v : List Nat} (a : Moved n t u) (b : Moved n u v) : Moved n t v := by
  obtain ⟨c, e, e', h⟩ := a.shift
  obtain ⟨c2, e2, e2', h2⟩ := b.shift
  refine ⟨b.len.trans a.len, a.pos, c2 + c, e2 + e, e2' + e', fun i => ?_⟩
  have h3 := h2 i
  have h4 := h (i + c2)
  rw [show i + (c2 + c) = i + c2 + c by omega]
  omega
theorem Moved.refl {n : Nat} {t : List Nat} (h : 0 < t.length) : Moved n t t := ⟨rfl, h, 0, 0, 0, fun i => by simp⟩

/-- The same tones, counted backwards. -/
structure Turned (n : Nat) (t t' : List Nat) : Prop where
  len : t'.length = t.length
  pos : 0 < t.length
  shift : ∃ c e, ∀ i, i ≤ c + 4 * t.length → atN n t' i + atN n t (c + 4 * t.length - i) = e
theorem Turned.sizes {n : Nat} {t t' : List Nat} (m : Turned n t t') (j : Nat) (hj : j ≤ t.length) : Plain.sizes n t' j = Plain.sizes n t j := by
  obtain ⟨c, e, h⟩ := m.shift
  have hp' : 0 < t'.length := by rw [m.len]; exact m.pos
  have hpos := m.pos
  refine presentFrom_congr (fun x => ?_) n 0
  constructor
  · intro hx
    obtain ⟨i, _, hi, rfl⟩ := rawFrom_mem n t' j x t'.length 0 hx
    rw [mem_raw n t m.pos]
    rw [m.len] at hi
    refine ⟨c + 4 * t.length - (i + j), ?_⟩
    have h1 := h i (by omega)
    have h2 := h (i + j) (by omega)
    rw [show c + 4 * t.length - (i + j) + j = c + 4 * t.length - i by omega]
    omega
  · intro hx
    obtain ⟨i, _, hi, rfl⟩ := rawFrom_mem n t j x t.length 0 hx
    rw [mem_raw n t' hp']
    refine ⟨c + 4 * t.length - (i + j), ?_⟩
    have h1 := h (c + 4 * t.length - (i + j)) (by omega)
    have h2 := h (c + 4 * t.length - (i + j) + j) (by omega)
    rw [show c + 4 * t.length - (c + 4 * t.length - (i + j)) = i + j by omega] at h1
    rw [show c + 4 * t.length - (c + 4 * t.length - (i + j) + j) = i by omega] at h2
    omega

theorem evenFrom_congr {n : Nat} {t t' : List Nat} (h : ∀ j, j ≤ t.length → sizes n t' j = sizes n t j) : ∀ (d j : Nat), j + d ≤ t.length → evenFrom n t' j d = evenFrom n t j d
  | 0, _, _ => rfl
  | d + 1, j, hj => by unfold evenFrom; rw [h j (by omega), evenFrom_congr h d (j + 1) (by omega)]
theorem twoFrom_congr {n : Nat} {t t' : List Nat} (h : ∀ j, j ≤ t.length → sizes n t' j = sizes n t j) : ∀ (d j : Nat), j + d ≤ t.length → twoFrom n t' j d = twoFrom n t j d
  | 0, _, _ => rfl
  | d + 1, j, hj => by unfold twoFrom; rw [h j (by omega), twoFrom_congr h d (j + 1) (by omega)]

/-! ### moved by one -/
theorem getD_map (t : List Nat) (f : Nat → Nat) (i : Nat) (h : i < t.length) : (t.map f).getD i 0 = f (t.getD i 0) := by
  rw [List.getD_eq_getElem?_getD, List.getD_eq_getElem?_getD, List.getElem?_map, List.getElem?_eq_getElem h]
  rfl
theorem moved_bit (n s m x : Nat) (_hm : m ≤ n) (hx : x < n) : (moved n s m).testBit x = ((decide (m ≤ x) && s.testBit (x - m)) || s.testBit (x + (n - m))) := by
  unfold moved
  rw [Nat.testBit_and, Nat.testBit_or, Nat.testBit_mul_two_pow, Nat.testBit_div_two_pow, Nat.testBit_two_pow_sub_one]
  simp [hx]
theorem moved_lt' (n s k : Nat) : moved n s k < 2 ^ n := Nat.and_lt_two_pow _ (Nat.sub_lt (Nat.two_pow_pos n) (by decide))

theorem last_eq (t : List Nat) (h : 0 < t.length) : t.getD (t.length - 1) 0 = t.getLast (List.ne_nil_of_length_pos h) := by
  rw [List.getLast_eq_getElem, List.getD_eq_getElem?_getD, List.getElem?_eq_getElem (show t.length - 1 < t.length by omega)]
  rfl

/-- Moved by one. -/
theorem rot_one (n s : Nat) (hn : 0 < n) (hs : s < 2 ^ n) (hp : 0 < (tones n s).length) : Moved n (tones n s) (tones n (moved n s 1)) := by
  have ht := tones_rising n s
  have hb := tones_bound n s
  have hbit : ∀ x, n ≤ x → s.testBit x = false := fun x hx => Nat.testBit_lt_two_pow (Nat.lt_of_lt_of_le hs (Nat.pow_le_pow_right (by decide) hx))
  by_cases hl : s.testBit (n - 1) = true
  · -- the last tone becomes 0
    have hcand : tones n (moved n s 1) = 0 :: (tones n s).dropLast.map (· + 1) := by
      have hdl : Rising (tones n s).dropLast := List.Pairwise.sublist (List.dropLast_sublist _) ht
      have hmem : n - 1 ∈ tones n s := (mem_tones n s (n - 1)).2 ⟨by omega, hl⟩
      have hne : tones n s ≠ [] := List.ne_nil_of_length_pos hp
      have hlast : (tones n s).getLast hne = n - 1 := by
        obtain ⟨i, hi, hie⟩ := List.mem_iff_getElem.1 hmem
        have hle : (tones n s).getLast hne < n := hb _ (List.getLast_mem hne)
        rw [← last_eq _ hp] at hle ⊢
        rcases Nat.lt_or_ge i ((tones n s).length - 1) with h | h
        · have := rising_get ht h (by omega)
          rw [List.getD_eq_getElem?_getD, List.getElem?_eq_getElem hi] at this
          simp only [Option.getD_some, hie] at this
          omega
        · rw [show (tones n s).length - 1 = i by omega, List.getD_eq_getElem?_getD, List.getElem?_eq_getElem hi]
          exact hie
      have hsplit : tones n s = (tones n s).dropLast ++ [n - 1] := by
        conv => lhs; rw [← List.dropLast_concat_getLast hne, hlast]
      refine rising_eqN (tones_rising n _) (List.pairwise_cons.2 ⟨fun y hy => ?_, ?_⟩) (fun x => ?_)
      · obtain ⟨z, _, rfl⟩ := List.mem_map.1 hy; omega
      · unfold Rising at hdl; rw [List.pairwise_map]; exact hdl.imp (fun h => by omega)
      · rw [mem_tones, List.mem_cons, List.mem_map]
        constructor
        · rintro ⟨hx, hbx⟩
          rw [moved_bit n s 1 x (by omega) hx] at hbx
          by_cases h0 : x = 0
          · exact .inl h0
          · right
            rw [hbit (x + (n - 1)) (by omega), Bool.or_false, Bool.and_eq_true] at hbx
            have hm : x - 1 ∈ tones n s := (mem_tones n s (x - 1)).2 ⟨by omega, hbx.2⟩
            rw [hsplit, List.mem_append, List.mem_singleton] at hm
            rcases hm with hm | hm
            · exact ⟨x - 1, hm, by omega⟩
            · omega
        · rintro (rfl | ⟨z, hz, rfl⟩)
          · exact ⟨hn, by rw [moved_bit n s 1 0 (by omega) hn, Nat.zero_add, hl]; simp⟩
          · have hz1 : z ∈ tones n s := by rw [hsplit]; exact List.mem_append_left _ hz
            have hz2 := (mem_tones n s z).1 hz1
            have hz3 : z < n - 1 := by
              have hr := ht
              rw [hsplit] at hr
              exact (List.pairwise_append.1 hr).2.2 z hz (n - 1) (List.mem_singleton.2 rfl)
            exact ⟨by omega, by rw [moved_bit n s 1 (z + 1) (by omega) (by omega), show z + 1 - 1 = z by omega, hz2.2]; simp⟩
    have hlen : (tones n (moved n s 1)).length = (tones n s).length := by rw [hcand]; simp; omega
    have hlastD : (tones n s).getD ((tones n s).length - 1) 0 = n - 1 := by
      have hmem : n - 1 ∈ tones n s := (mem_tones n s (n - 1)).2 ⟨by omega, hl⟩
      obtain ⟨i, hi, hie⟩ := List.mem_iff_getElem.1 hmem
      have hle := hb _ (getD_mem (show (tones n s).length - 1 < (tones n s).length by omega))
      rcases Nat.lt_or_ge i ((tones n s).length - 1) with h | h
      · have := rising_get ht h (by omega)
        rw [List.getD_eq_getElem?_getD, List.getElem?_eq_getElem hi] at this
        simp only [Option.getD_some, hie] at this
        omega
      · rw [show (tones n s).length - 1 = i by omega, List.getD_eq_getElem?_getD, List.getElem?_eq_getElem hi]
        exact hie
    refine ⟨hlen, hp, (tones n s).length - 1, n, 1, ?_⟩
    -- for the first tones, then for all
    have base : ∀ i, i < (tones n s).length → atN n (tones n (moved n s 1)) i + n = atN n (tones n s) (i + ((tones n s).length - 1)) + 1 := by
      intro i hi
      rw [atN_low n _ i (by rw [hlen]; exact hi), hcand]
      rcases Nat.eq_zero_or_pos i with h0 | h0
      · subst h0
        rw [Nat.zero_add, atN_low n _ _ (by omega), hlastD]
        simp
        omega
      · rw [atN_high n _ _ (by omega) (by omega), show i + ((tones n s).length - 1) - (tones n s).length = i - 1 by omega]
        obtain ⟨m, rfl⟩ : ∃ m, i = m + 1 := ⟨i - 1, by omega⟩
        rw [List.getD_cons_succ, getD_map _ _ _ (by simp; omega), show m + 1 - 1 = m by omega]
        have : (tones n s).dropLast.getD m 0 = (tones n s).getD m 0 := by
          rw [List.getD_eq_getElem?_getD, List.getD_eq_getElem?_getD, List.getElem?_dropLast, if_pos (by omega)]
        rw [this]
        omega
    intro i
    have hi : i % (tones n s).length < (tones n s).length := Nat.mod_lt _ hp
    have e1 : i % (tones n s).length + i / (tones n s).length * (tones n s).length = i := by rw [Nat.mul_comm]; have := Nat.div_add_mod i (tones n s).length; omega
    have b := base _ hi
    have p1 := atN_periods n (tones n (moved n s 1)) (by rw [hlen]; exact hp) (i / (tones n s).length) (i % (tones n s).length)
    have p2 := atN_periods n (tones n s) hp (i / (tones n s).length) (i % (tones n s).length + ((tones n s).length - 1))
    rw [hlen, e1] at p1
    rw [show i % (tones n s).length + ((tones n s).length - 1) + i / (tones n s).length * (tones n s).length = i + ((tones n s).length - 1) by omega] at p2
    omega
  · -- all go up by one
    have hl' : s.testBit (n - 1) = false := by simpa using hl
    have hcand : tones n (moved n s 1) = (tones n s).map (· + 1) := by
      refine rising_eqN (tones_rising n _) ?_ (fun x => ?_)
      · unfold Rising at ht ⊢; rw [List.pairwise_map]; exact ht.imp (fun h => by omega)
      · rw [mem_tones, List.mem_map]
        constructor
        · rintro ⟨hx, hbx⟩
          rw [moved_bit n s 1 x (by omega) hx] at hbx
          by_cases h0 : x = 0
          · subst h0
            rw [Nat.zero_add, hl'] at hbx
            simp at hbx
          · rw [hbit (x + (n - 1)) (by omega), Bool.or_false, Bool.and_eq_true] at hbx
            exact ⟨x - 1, (mem_tones n s (x - 1)).2 ⟨by omega, hbx.2⟩, by omega⟩
        · rintro ⟨z, hz, rfl⟩
          have hz2 := (mem_tones n s z).1 hz
          have hz3 : z ≠ n - 1 := by intro e; rw [e, hl'] at hz2; simp at hz2
          exact ⟨by omega, by rw [moved_bit n s 1 (z + 1) (by omega) (by omega), show z + 1 - 1 = z by omega, hz2.2]; simp⟩
    have hlen : (tones n (moved n s 1)).length = (tones n s).length := by rw [hcand]; simp
    refine ⟨hlen, hp, 0, 0, 1, fun i => ?_⟩
    unfold atN
    rw [hlen, hcand, getD_map _ _ _ (Nat.mod_lt _ hp)]
    simp
    omega

theorem moved_zero (n s : Nat) (hs : s < 2 ^ n) : moved n s 0 = s := by
  apply Nat.eq_of_testBit_eq
  intro x
  by_cases hx : x < n
  · rw [moved_bit n s 0 x (by omega) hx, Nat.testBit_lt_two_pow (x := s) (i := x + (n - 0)) (Nat.lt_of_lt_of_le hs (Nat.pow_le_pow_right (by decide) (by omega)))]
    simp
  · rw [Nat.testBit_lt_two_pow (Nat.lt_of_lt_of_le (moved_lt' n s 0) (Nat.pow_le_pow_right (by decide) (by omega))), Nat.testBit_lt_two_pow (Nat.lt_of_lt_of_le hs (Nat.pow_le_pow_right (by decide) (by omega)))]
theorem moved_succ (n s m : Nat) (hs : s < 2 ^ n) (hm : m < n) : moved n s (m + 1) = moved n (moved n s m) 1 := by
  have hbit : ∀ x, n ≤ x → s.testBit x = false := fun x hx => Nat.testBit_lt_two_pow (Nat.lt_of_lt_of_le hs (Nat.pow_le_pow_right (by decide) hx))
  apply Nat.eq_of_testBit_eq
  intro x
  by_cases hx : x < n
  · rw [moved_bit n s (m + 1) x (by omega) hx, moved_bit n _ 1 x (by omega) hx]
    rcases Nat.eq_zero_or_pos x with h0 | h0
    · subst h0
      rw [show 0 + (n - 1) = n - 1 by omega, moved_bit n s m (n - 1) (by omega) (by omega), hbit (n - 1 + (n - m)) (by omega), show 0 + (n - (m + 1)) = n - 1 - m by omega]
      have : m ≤ n - 1 := by omega
      simp [this]
    · rw [moved_bit n s m (x - 1) (by omega) (by omega)]
      have hz : (moved n s m).testBit (x + (n - 1)) = false := Nat.testBit_lt_two_pow (Nat.lt_of_lt_of_le (moved_lt' n s m) (Nat.pow_le_pow_right (by decide) (by omega)))
      rw [hz, show x - 1 - m = x - (m + 1) by omega, show x - 1 + (n - m) = x + (n - (m + 1)) by omega]
      have e : decide (m + 1 ≤ x) = decide (m ≤ x - 1) := by rw [Bool.eq_iff_iff]; simp; omega
      have e2 : decide (1 ≤ x) = true := by simp; omega
      rw [e, e2]
      simp
  · rw [Nat.testBit_lt_two_pow (Nat.lt_of_lt_of_le (moved_lt' n s (m + 1)) (Nat.pow_le_pow_right (by decide) (by omega))), Nat.testBit_lt_two_pow (Nat.lt_of_lt_of_le (moved_lt' n _ 1) (Nat.pow_le_pow_right (by decide) (by omega)))]
/-- Moved by m. -/
theorem rot (n s : Nat) (hn : 0 < n) (hs : s < 2 ^ n) (hp : 0 < (tones n s).length) : ∀ m, m ≤ n → Moved n (tones n s) (tones n (moved n s m))
  | 0, _ => by rw [moved_zero n s hs]; exact Moved.refl hp
  | m + 1, h => by
    have ih := rot n s hn hs hp m (by omega)
    rw [moved_succ n s m hs (by omega)]
    exact ih.trans (rot_one n (moved n s m) hn (moved_lt' n s m) (by rw [ih.len]; exact hp))

end Go.Proofs.Ythbcdmbicfmeaaa.Plain
