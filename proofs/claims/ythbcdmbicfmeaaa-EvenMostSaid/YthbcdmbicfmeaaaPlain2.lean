/- Spans of a scale, whether it is even, and whether it has the two sizes, by lists of natural numbers alone. -/
import Derived.Test.YthbcdmbicfmeaaaPlain
import Derived.Test.YthbcdmbicfmeaaaSlices
namespace Go.Proofs.Ythbcdmbicfmeaaa.Plain
open Go.Proofs.Ythbcdmbicfmeaaa.Kit

/-- t(i). -/
def atN (n : Nat) (t : List Nat) (i : Nat) : Nat := t.getD (i % t.length) 0 + i / t.length * n
/-- The sizes of the spans of j steps from t(i) on, d of them. -/
def rawFrom (n : Nat) (t : List Nat) (j : Nat) : Nat → Nat → List Nat
  | _, 0 => []
  | i, d + 1 => (atN n t (i + j) - atN n t i) :: rawFrom n t j (i + 1) d
def raw (n : Nat) (t : List Nat) (j : Nat) : List Nat := rawFrom n t j 0 t.length
def memB (x : Nat) : List Nat → Bool
  | [] => false
  | y :: l => if x = y then true else memB x l
/-- The numbers from x on, d of them, that are in a list. -/
def presentFrom (l : List Nat) : Nat → Nat → List Nat
  | _, 0 => []
  | x, d + 1 => if memB x l then x :: presentFrom l (x + 1) d else presentFrom l (x + 1) d
/-- All different sizes of spans of j steps, rising. -/
def sizes (n : Nat) (t : List Nat) (j : Nat) : List Nat := presentFrom (raw n t j) 0 n
def okN (z : List Nat) : Bool := if z.length > 2 then false else if z.length = 2 then z.getD 1 0 - z.getD 0 0 == 1 else true
def evenFrom (n : Nat) (t : List Nat) : Nat → Nat → Bool
  | _, 0 => true
  | j, d + 1 => if okN (sizes n t j) then evenFrom n t (j + 1) d else false
def evenN (n s : Nat) : Bool := evenFrom n (tones n s) 1 ((tones n s).length - 1)
def twoFrom (n : Nat) (t : List Nat) : Nat → Nat → Bool
  | _, 0 => true
  | j, d + 1 => if (sizes n t j).length = 2 then twoFrom n t (j + 1) d else false
def twoN (n s : Nat) : Bool := if twoFrom n (tones n s) 1 ((tones n s).length - 1) then decide (1 < (tones n s).length) else false

theorem memB_iff (x : Nat) : ∀ l : List Nat, memB x l = true ↔ x ∈ l
  | [] => by simp [memB]
  | y :: l => by
    unfold memB
    by_cases e : x = y
    · simp [e]
    · simp [e, memB_iff x l]

/-- Rising, no two the same. -/
def Rising {α : Type} [LT α] (l : List α) : Prop := l.Pairwise (· < ·)

theorem rising_eq : ∀ {l m : List Int}, Rising l → Rising m → (∀ x, x ∈ l ↔ x ∈ m) → l = m
  | [], [], _, _, _ => rfl
  | [], y :: m, _, _, h => by have := (h y).2 List.mem_cons_self; simp at this
  | x :: l, [], _, _, h => by have := (h x).1 List.mem_cons_self; simp at this
  | x :: l, y :: m, hl, hm, h => by
    obtain ⟨hx, hl'⟩ := List.pairwise_cons.1 hl
    obtain ⟨hy, hm'⟩ := List.pairwise_cons.1 hm
    have e : x = y := by
      rcases List.mem_cons.1 ((h x).1 List.mem_cons_self) with e | e
      · exact e
      · rcases List.mem_cons.1 ((h y).2 List.mem_cons_self) with e' | e'
        · exact e'.symm
        · have := hx y e'; have := hy x e; omega
    subst e
    rw [rising_eq hl' hm' (fun z => ?_)]
    constructor
    · intro hz
      rcases List.mem_cons.1 ((h z).1 (List.mem_cons_of_mem _ hz)) with e | e
      · have := hx z hz; omega
      · exact e
    · intro hz
      rcases List.mem_cons.1 ((h z).2 (List.mem_cons_of_mem _ hz)) with e | e
      · have := hy z hz; omega
      · exact e

theorem presentFrom_mem (l : List Nat) (y : Nat) : ∀ (d x : Nat), y ∈ presentFrom l x d ↔ x ≤ y ∧ y < x + d ∧ y ∈ l
  | 0, x => by simp [presentFrom]; omega
  | d + 1, x => by
    unfold presentFrom
    have ih := presentFrom_mem l y d (x + 1)
    by_cases h : memB x l = true
    · rw [if_pos h, List.mem_cons, ih]
      have hx := (memB_iff x l).1 h
      constructor
      · rintro (rfl | ⟨h1, h2, h3⟩)
        · exact ⟨by omega, by omega, hx⟩
        · exact ⟨by omega, by omega, h3⟩
      · rintro ⟨h1, h2, h3⟩
        by_cases e : y = x
        · exact .inl e
        · exact .inr ⟨by omega, by omega, h3⟩
    · rw [if_neg h, ih]
      constructor
      · rintro ⟨h1, h2, h3⟩; exact ⟨by omega, by omega, h3⟩
      · rintro ⟨h1, h2, h3⟩
        refine ⟨?_, by omega, h3⟩
        by_cases e : y = x
        · rw [e] at h3; exact absurd ((memB_iff x l).2 h3) h
        · omega
theorem presentFrom_rising (l : List Nat) : ∀ (d x : Nat), Rising (presentFrom l x d)
  | 0, x => List.Pairwise.nil
  | d + 1, x => by
    unfold presentFrom
    split
    · refine List.pairwise_cons.2 ⟨fun y hy => ?_, presentFrom_rising l d (x + 1)⟩
      have := (presentFrom_mem l y d (x + 1)).1 hy
      omega
    · exact presentFrom_rising l d (x + 1)
theorem toI_rising {l : List Nat} (h : Rising l) : Rising (toI l) := by
  unfold Rising toI at *
  rw [List.pairwise_map]
  exact h.imp (fun h => by omega)
theorem mem_toI (l : List Nat) (x : Int) : x ∈ toI l ↔ ∃ y : Nat, y ∈ l ∧ (y : Int) = x := by simp [toI]

/-- What Compact leaves of a list that rises, or stays. -/
theorem compact_rising (z : List Int) (hz : z.Pairwise (· ≤ ·)) : Rising (Lib.compact z) ∧ ∀ x, x ∈ Lib.compact z ↔ x ∈ z := by
  have get : ∀ i, i < z.length → z.toArray[i]! = z.getD i 0 := fun i hi => by
    rw [getElem!_pos z.toArray i (by simpa using hi)]
    simp [List.getD_eq_getElem?_getD, hi]
  have le : ∀ i j, i ≤ j → j < z.length → z.getD i 0 ≤ z.getD j 0 := fun i j h1 h2 => by
    rw [List.getD_eq_getElem?_getD, List.getD_eq_getElem?_getD, List.getElem?_eq_getElem (show i < z.length by omega), List.getElem?_eq_getElem h2]
    rcases Nat.lt_or_ge i j with h | h
    · exact List.pairwise_iff_getElem.1 hz i j (by omega) h2 h
    · obtain rfl : i = j := by omega
      exact Int.le_refl _
  have key : ∀ m, m ≤ z.length → Rising (Lib.compactUpTo z.toArray m) ∧ (∀ x, x ∈ Lib.compactUpTo z.toArray m ↔ ∃ i, i < m ∧ z.getD i 0 = x) := by
    intro m
    induction m with
    | zero => intro _; exact ⟨by simp [Lib.compactUpTo, Rising], fun x => by simp [Lib.compactUpTo]⟩
    | succ m ih =>
      intro hm
      obtain ⟨h1, h2⟩ := ih (by omega)
      rw [Lib.compactUpTo_succ]
      by_cases hk : Lib.keeps z.toArray m = true
      · rw [if_pos hk, get m (by omega)]
        refine ⟨List.pairwise_append.2 ⟨h1, List.pairwise_singleton _ _, fun a ha b hb => ?_⟩, fun x => ?_⟩
        · rw [List.mem_singleton.1 hb]
          obtain ⟨i, hi, rfl⟩ := (h2 a).1 ha
          have hk' := of_decide_eq_true hk
          rcases hk' with h0 | hne
          · omega
          · rw [get m (by omega), get (m - 1) (by omega)] at hne
            have a1 := le i (m - 1) (by omega) (by omega)
            have a2 := le (m - 1) m (by omega) (by omega)
            omega
        · rw [List.mem_append, h2, List.mem_singleton]
          constructor
          · rintro (⟨i, hi, h⟩ | h)
            · exact ⟨i, by omega, h⟩
            · exact ⟨m, by omega, h.symm⟩
          · rintro ⟨i, hi, h⟩
            by_cases e : i = m
            · exact .inr (by rw [← h, e])
            · exact .inl ⟨i, by omega, h⟩
      · rw [if_neg hk, List.append_nil]
        refine ⟨h1, fun x => (h2 x).trans ⟨fun ⟨i, hi, h⟩ => ⟨i, by omega, h⟩, fun ⟨i, hi, h⟩ => ?_⟩⟩
        by_cases e : i = m
        · have hk' : ¬ (m = 0 ∨ z.toArray[m]! ≠ z.toArray[m - 1]!) := fun h => hk (decide_eq_true h)
          have h0 : m ≠ 0 := fun h => hk' (.inl h)
          have he : z.toArray[m]! = z.toArray[m - 1]! := Decidable.byContradiction (fun h => hk' (.inr h))
          rw [get m (by omega), get (m - 1) (by omega)] at he
          exact ⟨m - 1, by omega, by rw [← he, ← e, h]⟩
        · exact ⟨i, by omega, h⟩
  obtain ⟨h1, h2⟩ := key z.length (Nat.le_refl _)
  refine ⟨h1, fun x => (h2 x).trans ⟨fun ⟨i, hi, h⟩ => ?_, fun h => ?_⟩⟩
  · rw [← h, List.getD_eq_getElem?_getD, List.getElem?_eq_getElem hi]
    exact List.getElem_mem hi
  · obtain ⟨i, hi, h⟩ := List.mem_iff_getElem.1 h
    exact ⟨i, hi, by rw [List.getD_eq_getElem?_getD, List.getElem?_eq_getElem hi]; exact h⟩

theorem sorted_pairwise (l : List Int) : (Slices.sorted l).Pairwise (· ≤ ·) := by
  have := List.pairwise_mergeSort (le := fun x y : Int => decide (x ≤ y)) (by simp; omega) (by simp; omega) l
  exact this.imp (fun h => by simpa using h)
theorem sorted_mem (l : List Int) (x : Int) : x ∈ Slices.sorted l ↔ x ∈ l := by simp [Slices.sorted]

/-- Sort and Compact of small numbers: the numbers that are there, rising. -/
theorem compact_sorted (n : Nat) (R : List Nat) (hR : ∀ x, x ∈ R → x < n) : Lib.compact (Slices.sorted (toI R)) = toI (presentFrom R 0 n) := by
  obtain ⟨h1, h2⟩ := compact_rising (Slices.sorted (toI R)) (sorted_pairwise _)
  refine rising_eq h1 (toI_rising (presentFrom_rising R n 0)) (fun x => ?_)
  rw [h2, sorted_mem, mem_toI, mem_toI]
  constructor
  · rintro ⟨y, hy, rfl⟩; exact ⟨y, (presentFrom_mem R y n 0).2 ⟨by omega, by have := hR y hy; omega, hy⟩, rfl⟩
  · rintro ⟨y, hy, rfl⟩; exact ⟨y, ((presentFrom_mem R y n 0).1 hy).2.2, rfl⟩

/-! ### the tones -/
theorem tonesFrom_rising (s : Nat) : ∀ (d i : Nat), Rising (tonesFrom s i d) ∧ ∀ x, x ∈ tonesFrom s i d → i ≤ x ∧ x < i + d
  | 0, i => ⟨List.Pairwise.nil, fun x h => by simp [tonesFrom] at h⟩
  | d + 1, i => by
    obtain ⟨h1, h2⟩ := tonesFrom_rising s d (i + 1)
    unfold tonesFrom
    by_cases h : s.testBit i = true
    · rw [if_pos h]
      refine ⟨List.pairwise_cons.2 ⟨fun y hy => by have := h2 y hy; omega, h1⟩, fun x hx => ?_⟩
      rcases List.mem_cons.1 hx with e | e
      · omega
      · have := h2 x e; omega
    · rw [if_neg h]
      exact ⟨h1, fun x hx => by have := h2 x hx; omega⟩
theorem tones_rising (n s : Nat) : Rising (tones n s) := (tonesFrom_rising s n 0).1
theorem tones_bound (n s x : Nat) (h : x ∈ tones n s) : x < n := by have := (tonesFrom_rising s n 0).2 x h; omega

theorem getD_mem {t : List Nat} {i : Nat} (h : i < t.length) : t.getD i 0 ∈ t := by
  rw [List.getD_eq_getElem?_getD, List.getElem?_eq_getElem h]
  exact List.getElem_mem h
theorem rising_get {t : List Nat} (h : Rising t) {i j : Nat} (hij : i < j) (hj : j < t.length) : t.getD i 0 < t.getD j 0 := by
  rw [List.getD_eq_getElem?_getD, List.getD_eq_getElem?_getD, List.getElem?_eq_getElem (show i < t.length by omega), List.getElem?_eq_getElem hj]
  exact List.pairwise_iff_getElem.1 h i j (by omega) hj hij

/-- The size of one span. -/
theorem atN_low (n : Nat) (t : List Nat) (i : Nat) (h : i < t.length) : atN n t i = t.getD i 0 := by
  unfold atN
  rw [Nat.mod_eq_of_lt h, Nat.div_eq_of_lt h]
  omega
theorem atN_high (n : Nat) (t : List Nat) (i : Nat) (h : t.length ≤ i) (h2 : i < 2 * t.length) : atN n t i = t.getD (i - t.length) 0 + n := by
  unfold atN
  rw [Nat.mod_eq_sub_mod h, Nat.mod_eq_of_lt (by omega), Nat.div_eq_sub_div (by omega) h, Nat.div_eq_of_lt (by omega)]
  omega
theorem span_size {n : Nat} {t : List Nat} (ht : Rising t) (hb : ∀ x, x ∈ t → x < n) {i j : Nat} (hi : i < t.length) (hj0 : 1 ≤ j) (hj : j ≤ t.length) :
    atN n t i < atN n t (i + j) ∧ atN n t (i + j) ≤ atN n t i + n ∧ (j < t.length → atN n t (i + j) < atN n t i + n) := by
  have e := atN_low n t i hi
  have b1 := hb _ (getD_mem hi)
  rcases Nat.lt_or_ge (i + j) t.length with h | h
  · rw [atN_low n t (i + j) h, e]
    have b2 := hb _ (getD_mem h)
    have := rising_get ht (show i < i + j by omega) h
    omega
  · rw [atN_high n t (i + j) h (by omega), e]
    have b3 := hb _ (getD_mem (show i + j - t.length < t.length by omega))
    rcases Nat.lt_or_ge (i + j - t.length) i with h3 | h3
    · have := rising_get ht h3 hi
      omega
    · have : i + j - t.length = i := by omega
      rw [this]
      omega

theorem rawFrom_mem (n : Nat) (t : List Nat) (j x : Nat) : ∀ (d i : Nat), x ∈ rawFrom n t j i d → ∃ a, i ≤ a ∧ a < i + d ∧ x = atN n t (a + j) - atN n t a
  | 0, _, h => by simp [rawFrom] at h
  | d + 1, i, h => by
    rcases List.mem_cons.1 h with e | e
    · exact ⟨i, by omega, by omega, e⟩
    · obtain ⟨a, h1, h2, h3⟩ := rawFrom_mem n t j x d (i + 1) e
      exact ⟨a, by omega, by omega, h3⟩
theorem raw_lt {n : Nat} {t : List Nat} (ht : Rising t) (hb : ∀ x, x ∈ t → x < n) {j : Nat} (hj0 : 1 ≤ j) (hj : j < t.length) (x : Nat) (h : x ∈ raw n t j) : x < n := by
  obtain ⟨a, _, h2, rfl⟩ := rawFrom_mem n t j x t.length 0 h
  have := span_size ht hb (show a < t.length by omega) hj0 (by omega)
  omega
theorem rawFrom_length (n : Nat) (t : List Nat) (j : Nat) : ∀ (d i : Nat), (rawFrom n t j i d).length = d
  | 0, _ => rfl
  | d + 1, i => by simp [rawFrom, rawFrom_length n t j d (i + 1)]

theorem sizes_ne {n : Nat} {t : List Nat} (ht : Rising t) (hb : ∀ x, x ∈ t → x < n) {j : Nat} (hj0 : 1 ≤ j) (hj : j < t.length) : 0 < (sizes n t j).length := by
  have hl := rawFrom_length n t j t.length 0
  cases hr : raw n t j with
  | nil => unfold raw at hr; rw [hr] at hl; simp at hl; omega
  | cons x l =>
    have hx := raw_lt ht hb hj0 hj x (by rw [hr]; exact List.mem_cons_self)
    exact List.length_pos_of_mem ((presentFrom_mem (raw n t j) x n 0).2 ⟨by omega, by omega, by rw [hr]; exact List.mem_cons_self⟩)

theorem ok_rising (z : List Nat) (hz : Rising z) (h0 : 0 < z.length) : okN z = decide (z.getD (z.length - 1) 0 - z.getD 0 0 ≤ 1) := by
  unfold okN
  match z, h0 with
  | [a], _ => simp
  | [a, b], _ =>
    have := rising_get hz (show 0 < 1 by omega) (by simp)
    simp at this ⊢
    rw [Bool.eq_iff_iff]
    simp
    omega
  | a :: b :: c :: l, _ =>
    have h1 := rising_get hz (show 0 < 1 by omega) (show 1 < (a :: b :: c :: l).length by simp)
    have h2 := rising_get hz (show 1 < (a :: b :: c :: l).length - 1 by simp) (show (a :: b :: c :: l).length - 1 < (a :: b :: c :: l).length by simp)
    rw [if_pos (by simp)]
    symm
    refine decide_eq_false ?_
    omega

end Go.Proofs.Ythbcdmbicfmeaaa.Plain
