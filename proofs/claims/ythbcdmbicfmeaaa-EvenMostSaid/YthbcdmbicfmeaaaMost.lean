/- The scales with the greatest sum are the even ones: by the squares of the spans. By lists of natural numbers alone. -/
import Derived.Test.YthbcdmbicfmeaaaBalanced2
import Derived.Test.YthbcdmbicfmeaaaBase5
namespace Go.Proofs.Ythbcdmbicfmeaaa.Plain
open Go.Proofs.Ythbcdmbicfmeaaa.Kit Go.Proofs.Ythbcdmbicfmeaaa.SumLaw Go.Proofs.Ythbcdmbicfmeaaa.Base Go.Proofs.Ythbcdmbicfmeaaa.Base5

/-- How far a span of j steps is from j circles over k steps. -/
def off (q x : Int) : Int := (x - q) * (x - q - 1)
theorem off_nonneg (q x : Int) : 0 ≤ off q x := by
  unfold off
  rcases Int.lt_or_le x (q + 1) with h | h
  · have := Int.mul_nonneg (show 0 ≤ -(x - q) by omega) (show 0 ≤ -(x - q - 1) by omega)
    rwa [Int.neg_mul_neg] at this
  · exact Int.mul_nonneg (by omega) (by omega)
theorem off_zero (q x : Int) : off q x = 0 ↔ x = q ∨ x = q + 1 := by
  unfold off
  rw [Int.mul_eq_zero]
  omega
theorem ph_off (n q x : Int) : ph n x = (n - (2 * q + 1)) * x + q * (q + 1) - off q x := by
  unfold ph off
  simp only [Int.mul_sub, Int.sub_mul, Int.mul_add, Int.add_mul, Int.mul_one, Int.one_mul]
  have e1 : x * q = q * x := Int.mul_comm _ _
  have e2 : 2 * q * x = 2 * (q * x) := Int.mul_assoc _ _ _
  have e3 : x * n = n * x := Int.mul_comm _ _
  rw [e1, e2, e3]
  omega

/-- The greatest sum's double: of the numbers of tones alone. -/
def top (n k : Nat) : Int := ps (fun j => ((n : Int) - (2 * ((j * n / k : Nat) : Int) + 1)) * ((j : Int) * n) + k * (((j * n / k : Nat) : Int) * (((j * n / k : Nat) : Int) + 1))) k
/-- What is lacking. -/
def lack (n : Nat) (t : List Nat) : Int := ps (fun j => ps (fun i => off ((j * n / t.length : Nat) : Int) ((atN n t (i + j) : Int) - (atN n t i : Int))) t.length) t.length
theorem sumI_lack (n : Nat) (t : List Nat) (h : 0 < t.length) : 2 * sumI n (toI t) = top n t.length - lack n t := by
  rw [sumI_spans n t h, ps_swap]
  unfold top lack
  have e : ∀ j, ps (fun i => spanAdd n t i j) t.length = ((n : Int) - (2 * ((j * n / t.length : Nat) : Int) + 1)) * ((j : Int) * n) + t.length * (((j * n / t.length : Nat) : Int) * (((j * n / t.length : Nat) : Int) + 1)) + - ps (fun i => off ((j * n / t.length : Nat) : Int) ((atN n t (i + j) : Int) - (atN n t i : Int))) t.length := by
    intro j
    generalize ((j * n / t.length : Nat) : Int) = q
    rw [← span_total n t h j, ← ps_const, ← ps_mul, ← ps_neg, ← ps_add, ← ps_add]
    refine ps_congr (fun i _ => ?_)
    unfold spanAdd
    rw [ph_off n q]
    omega
  rw [ps_congr (fun j _ => e j), ps_add, ps_neg]
  omega
theorem lack_nonneg (n : Nat) (t : List Nat) : 0 ≤ lack n t := ps_nonneg (fun _ _ => ps_nonneg (fun _ _ => off_nonneg _ _))

/-- An even scale: every span of j steps is the part of j circles, or one more. -/
theorem even_spans {n : Nat} {t : List Nat} (ht : Rising t) (hb : ∀ x, x ∈ t → x < n) (hp : 0 < t.length) (he : evenFrom n t 1 (t.length - 1) = true) (j i : Nat) : atN n t (i + j) - atN n t i = j * n / t.length ∨ atN n t (i + j) - atN n t i = j * n / t.length + 1 := by
  obtain ⟨a, i1, hi1, ha, h⟩ := spread_of_even ht hb hp he
  have hc : i1 ≤ i1 * t.length := Nat.le_mul_of_pos_right i1 hp
  have p1 := atN_periods n t hp i1 i
  have p2 := atN_periods n t hp i1 (i + j)
  have h1 := h (i + (i1 * t.length - i1))
  have h2 := h (i + j + (i1 * t.length - i1))
  rw [show i + (i1 * t.length - i1) + i1 = i + i1 * t.length by omega, p1] at h1
  rw [show i + j + (i1 * t.length - i1) + i1 = i + j + i1 * t.length by omega, p2] at h2
  rw [show i + j + (i1 * t.length - i1) = i + (i1 * t.length - i1) + j by omega, Nat.mul_add] at h2
  rw [Nat.mul_comm j n]
  have key : ∀ u v K : Nat, 0 < K → (u + v) / K = u / K + v / K ∨ (u + v) / K = u / K + v / K + 1 := by
    intro u v K hK
    have d1 := Nat.div_add_mod u K
    have d2 := Nat.div_add_mod v K
    have d3 := Nat.div_add_mod (u + v) K
    have m1 := Nat.mod_lt u hK
    have m2 := Nat.mod_lt v hK
    have m3 := Nat.mod_lt (u + v) hK
    generalize u / K = a at *
    generalize v / K = b at *
    generalize (u + v) / K = c at *
    have l1 : a + b ≤ c := by
      refine Nat.le_of_not_lt (fun hlt => ?_)
      have : K * (c + 1) ≤ K * (a + b) := Nat.mul_le_mul_left K hlt
      rw [Nat.mul_add, Nat.mul_add] at this
      omega
    have l2 : c ≤ a + b + 1 := by
      refine Nat.le_of_not_lt (fun hlt => ?_)
      have : K * (a + b + 1 + 1) ≤ K * c := Nat.mul_le_mul_left K hlt
      rw [Nat.mul_add, Nat.mul_add, Nat.mul_add] at this
      omega
    omega
  have hk := key (n * (i + (i1 * t.length - i1))) (n * j) t.length hp
  generalize n * (i + (i1 * t.length - i1)) / t.length = y1 at *
  generalize n * j / t.length = y2 at *
  omega
/-- Nothing is lacking just where the scale is even. -/
theorem lack_even {n : Nat} {t : List Nat} (ht : Rising t) (hb : ∀ x, x ∈ t → x < n) (hp : 0 < t.length) : lack n t = 0 ↔ evenFrom n t 1 (t.length - 1) = true := by
  have zero : lack n t = 0 ↔ ∀ j, j < t.length → ∀ i, i < t.length → (atN n t (i + j) : Int) - (atN n t i : Int) = ((j * n / t.length : Nat) : Int) ∨ (atN n t (i + j) : Int) - (atN n t i : Int) = ((j * n / t.length : Nat) : Int) + 1 := by
    unfold lack
    rw [ps_zero_iff (fun j _ => ps_nonneg (fun i _ => off_nonneg _ _))]
    constructor
    · intro h j hj i hi
      exact (off_zero _ _).1 ((ps_zero_iff (fun i _ => off_nonneg _ _)).1 (h j hj) i hi)
    · intro h j hj
      exact (ps_zero_iff (fun i _ => off_nonneg _ _)).2 (fun i hi => (off_zero _ _).2 (h j hj i hi))
  rw [zero]
  constructor
  · intro h
    refine (evenFrom_all (t.length - 1) 1).2 (fun j hj0 hj => ?_)
    have hr : Rising (sizes n t j) := presentFrom_rising _ _ _
    have hne := sizes_ne ht hb hj0 (show j < t.length by omega)
    rw [ok_rising _ hr hne]
    have key : ∀ x, x ∈ sizes n t j → j * n / t.length ≤ x ∧ x ≤ j * n / t.length + 1 := by
      intro x hx
      obtain ⟨i, _, hi, rfl⟩ := rawFrom_mem n t j x t.length 0 ((presentFrom_mem _ x n 0).1 hx).2.2
      have := h j (by omega) i (by omega)
      have := atN_mono n t ht hb hp i j
      generalize j * n / t.length = y at *
      omega
    have k0 := key _ (getD_mem hne)
    have k1 := key _ (getD_mem (show (sizes n t j).length - 1 < (sizes n t j).length by omega))
    generalize j * n / t.length = y at *
    exact decide_eq_true (by omega)
  · intro he j _ i _
    have := even_spans ht hb hp he j i
    have := atN_mono n t ht hb hp i j
    generalize j * n / t.length = y at *
    omega

/-- The sum of an even scale, and of others. -/
theorem sum_top (n s : Nat) (hp : 0 < (tones n s).length) : 2 * sumI n (toI (tones n s)) ≤ top n (tones n s).length ∧ (2 * sumI n (toI (tones n s)) = top n (tones n s).length ↔ evenN n s = true) := by
  have h := sumI_lack n (tones n s) hp
  have h0 := lack_nonneg n (tones n s)
  have he := lack_even (tones_rising n s) (tones_bound n s) hp
  unfold evenN
  rw [← he]
  omega

/-- The list of the greatest: those that reach a bound that one reaches. -/
theorem most_eq (n : Nat) (B : Int) (hB : -1 < B) : ∀ (l : List Nat) (st : Int × List Nat), (∀ s, s ∈ l → sumI n (toI (tones n s)) ≤ B) → st.1 ≤ B → (st.1 = B ∨ ∃ s, s ∈ l ∧ sumI n (toI (tones n s)) = B) →
    mostFrom n l st = (B, (if st.1 = B then st.2 else []) ++ l.filter (fun s => decide (sumI n (toI (tones n s)) = B)))
  | [], st, _, h1, h2 => by
    rcases h2 with h2 | ⟨s, hs, _⟩
    · rw [if_pos h2]
      show st = _
      simp [← h2]
    · simp at hs
  | s :: l, st, hl, h1, h2 => by
    have hs := hl s List.mem_cons_self
    have hl' := fun x hx => hl x (List.mem_cons_of_mem _ hx)
    show mostFrom n l (mostStep n st s) = _
    rw [List.filter_cons]
    unfold mostStep
    by_cases c1 : sumI n (toI (tones n s)) > st.1
    · rw [if_pos c1, if_neg (show ¬ st.1 = B by omega)]
      by_cases c3 : sumI n (toI (tones n s)) = B
      · rw [most_eq n B hB l _ hl' (by omega) (.inl c3), if_pos c3, if_pos (by simpa using c3)]
        simp
      · rw [most_eq n B hB l _ hl' (by omega) (.inr ?_), if_neg c3, if_neg (by simpa using c3)]
        rcases h2 with h2 | ⟨x, hx, hx2⟩
        · omega
        · rcases List.mem_cons.1 hx with rfl | hx
          · exact absurd hx2 c3
          · exact ⟨x, hx, hx2⟩
    · rw [if_neg c1]
      by_cases c2 : sumI n (toI (tones n s)) = st.1
      · rw [if_pos c2]
        by_cases c3 : st.1 = B
        · rw [most_eq n B hB l (st.1, st.2 ++ [s]) hl' h1 (.inl c3), if_pos c3, if_pos c3, if_pos (by simp; omega)]
          simp
        · rw [most_eq n B hB l (st.1, st.2 ++ [s]) hl' h1 (.inr ?_), if_neg c3, if_neg c3, if_neg (by simp; omega)]
          rcases h2 with h2 | ⟨x, hx, hx2⟩
          · exact absurd h2 c3
          · rcases List.mem_cons.1 hx with rfl | hx
            · omega
            · exact ⟨x, hx, hx2⟩
      · rw [if_neg c2, if_neg (show ¬ decide (sumI n (toI (tones n s)) = B) = true by simp; omega)]
        refine most_eq n B hB l _ hl' h1 ?_
        rcases h2 with h2 | ⟨x, hx, hx2⟩
        · exact .inl h2
        · rcases List.mem_cons.1 hx with rfl | hx
          · omega
          · exact .inr ⟨x, hx, hx2⟩

/-- Every number of tones has an even scale: the spread one. -/
theorem spreadEven_all : allBelow (fun n => allBelow (fun k => tones (n + 2) (spread (n + 2) (k + 1) 0) == (List.range (k + 1)).map (fun j => ((n + 2) * j + 0) / (k + 1))) (n + 2)) 15 = true := by decide +kernel
theorem spread_tones (n k : Nat) (h1 : 2 ≤ n) (h2 : n ≤ 16) (h3 : 1 ≤ k) (h4 : k ≤ n) : tones n (spread n k 0) = (List.range k).map (fun j => (n * j + 0) / k) := by
  have a := allBelow_spec (allBelow_spec spreadEven_all (n - 2) (by omega)) (k - 1) (by omega)
  rw [show n - 2 + 2 = n by omega, show k - 1 + 1 = k by omega] at a
  exact eq_of_beq a
theorem spread_even (n k : Nat) (h1 : 2 ≤ n) (h2 : n ≤ 16) (h3 : 1 ≤ k) (h4 : k ≤ n) : (tones n (spread n k 0)).length = k ∧ evenN n (spread n k 0) = true := by
  have e := spread_tones n k h1 h2 h3 h4
  have hl : (tones n (spread n k 0)).length = k := by rw [e]; simp
  refine ⟨hl, even_of_spread (tones_rising n _) (tones_bound n _) (by omega) 0 (fun i hi => ?_)⟩
  rw [hl] at hi ⊢
  rw [e, List.getD_eq_getElem?_getD, List.getElem?_map, List.getElem?_range hi]
  rfl
theorem spread_in (n k : Nat) (h1 : 2 ≤ n) (h2 : n ≤ 16) (h3 : 1 ≤ k) (h4 : k ≤ n) : spread n k 0 ∈ allSets n k := by
  have hl := (spread_even n k h1 h2 h3 h4).1
  have hlt : spread n k 0 < 2 ^ n := spread_lt2 n k 0 (by omega) k 0 0 (Nat.two_pow_pos n)
  refine (kSets_mem n k _ (2 ^ n - 1) 1).2 ⟨?_, by have := Nat.two_pow_pos n; omega, hl⟩
  rcases Nat.eq_zero_or_pos (spread n k 0) with e | e
  · rw [e] at hl
    have hm := (mem_tones n 0 _).1 (getD_mem (show 0 < (tones n 0).length by omega))
    simp at hm
  · exact e
/-- The scales with the greatest sum are just the even ones. -/
theorem most_even (n k : Nat) (h1 : 2 ≤ n) (h2 : n ≤ 16) (h3 : 1 ≤ k) (h4 : k ≤ n) : mostList n k = evenList n k ∧ ∃ B : Int, 2 * B = top n k ∧ ∀ s, (tones n s).length = k → sumI n (toI (tones n s)) ≤ B ∧ (sumI n (toI (tones n s)) = B ↔ evenN n s = true) := by
  obtain ⟨hl, he⟩ := spread_even n k h1 h2 h3 h4
  have hsp := sum_top n (spread n k 0) (by omega)
  rw [hl] at hsp
  have hB2 := hsp.2.2 he
  have hall : ∀ s, (tones n s).length = k → sumI n (toI (tones n s)) ≤ sumI n (toI (tones n (spread n k 0))) ∧ (sumI n (toI (tones n s)) = sumI n (toI (tones n (spread n k 0))) ↔ evenN n s = true) := by
    intro s hs
    have := sum_top n s (by omega)
    rw [hs] at this
    rw [← this.2]
    omega
  refine ⟨?_, _, hB2, hall⟩
  have hpos : -1 < sumI n (toI (tones n (spread n k 0))) := by
    have h0 := sumI_spans n (tones n (spread n k 0)) (by omega)
    have : 0 ≤ ps (fun i => ps (fun j => spanAdd n (tones n (spread n k 0)) i j) (tones n (spread n k 0)).length) (tones n (spread n k 0)).length := by
      refine ps_nonneg (fun i hi => ps_nonneg (fun j hj => ?_))
      have hm := atN_mono n _ (tones_rising n (spread n k 0)) (tones_bound n _) (by omega) i j
      rcases Nat.eq_zero_or_pos j with c | c
      · subst c
        unfold spanAdd ph
        rw [Nat.add_zero, Int.sub_self, Int.zero_mul]
        exact Int.le_refl _
      · have hsz := (span_size (tones_rising n (spread n k 0)) (tones_bound n _) hi c (by omega)).2.1
        exact Int.mul_nonneg (by omega) (by omega)
    omega
  unfold mostList evenList
  rw [most_eq n _ hpos (allSets n k) (-1, []) (fun s hs => (hall s ((kSets_mem n k s _ 1).1 hs).2.2).1) (by show (-1 : Int) ≤ _; omega) (.inr ⟨_, spread_in n k h1 h2 h3 h4, rfl⟩), if_neg (by show ¬ (-1 : Int) = _; omega)]
  show List.filter _ _ = _
  refine List.filter_congr (fun s hs => ?_)
  rw [Bool.eq_iff_iff, decide_eq_true_eq]
  exact (hall s ((kSets_mem n k s _ 1).1 hs).2.2).2

end Go.Proofs.Ythbcdmbicfmeaaa.Plain
