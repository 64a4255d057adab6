/- What spans, Spans, Word, Even and Two of the program and of the reference compute, told by plain functions on natural numbers. -/
import Derived.Test.YthbcdmbicfmeaaaP10
import Derived.Test.YthbcdmbicfmeaaaP5
import Derived.Test.YthbcdmbicfmeaaaP6
import Derived.Test.YthbcdmbicfmeaaaP7
import Derived.Test.YthbcdmbicfmeaaaP9
import Derived.Test.YthbcdmbicfmeaaaBase2
import Derived.Test.YthbcdmbicfmeaaaPlain2
namespace Go.Proofs.Ythbcdmbicfmeaaa.Base3
open Go.RowKit Go.Proofs.Ythbcdmbicfmeaaa.P Go.Proofs.Ythbcdmbicfmeaaa.Kit Go.Proofs.Ythbcdmbicfmeaaa.Base Go.Proofs.Ythbcdmbicfmeaaa.Base2 Go.Proofs.Ythbcdmbicfmeaaa.Plain Go.Proofs.YthbcdmbicfmeaaaW.PrintWords Go.Proofs.YthbcdmbicfmeaaaW.PrintLast

/-- The tones of a scale: so many, rising, below n. -/
structure IsTones (n : Nat) (t : List Nat) : Prop where
  n2 : 2 ≤ n
  n16 : n ≤ 16
  len : t.length ≤ 16
  rise : Rising t
  lt : ∀ x, x ∈ t → x < n
theorem isTones (n s : Nat) (h1 : 2 ≤ n) (h2 : n ≤ 16) : IsTones n (tones n s) :=
  ⟨h1, h2, Nat.le_trans (tones_length n s) h2, tones_rising n s, tones_bound n s⟩

theorem atN_le {n : Nat} {t : List Nat} (T : IsTones n t) (i : Nat) (hi : i ≤ 32) : atN n t i ≤ 16 + 32 * 16 := by
  unfold atN
  have h1 : t.getD (i % t.length) 0 < 16 := Nat.lt_of_lt_of_le (getD_lt (by have := T.n2; omega) T.lt _) T.n16
  have h2 : i / t.length ≤ 32 := Nat.le_trans (Nat.div_le_self _ _) hi
  have h3 : i / t.length * n ≤ 32 * 16 := Nat.mul_le_mul h2 T.n16
  omega

theorem at_f {n : Nat} {t : List Nat} (T : IsTones n t) (h0 : 0 < t.length) (i : Nat) (hi : i ≤ 32) : even_scale_at.f n (toI t) i = some ((atN n t i : Nat) : Int) := by
  have hle := atN_le T i hi
  have hdiv : i / t.length ≤ i := Nat.div_le_self _ _
  have hmul : i / t.length * n ≤ 32 * 16 := Nat.mul_le_mul (by omega) T.n16
  have e1 : wrap64 (((i / t.length : Nat) : Int)) = ((i / t.length : Nat) : Int) := wnat _ (by omega)
  have e2 : wrap64 ((((i / t.length : Nat) : Int)) * (n : Int)) = ((i / t.length * n : Nat) : Int) := by rw [← Int.natCast_mul]; exact wnat _ (by omega)
  have hmod : i % t.length < t.length := Nat.mod_lt _ h0
  unfold even_scale_at.f
  rw [toI_length, tmod_nat, tdiv_nat, e1, e2, rd_toI, ← Int.natCast_add, if_neg (by omega), if_pos (by omega), if_pos (by omega)]
  show some (wrap64 ((atN n t i : Nat) : Int)) = _
  rw [wnat _ (by omega)]

/-- A difference of two tones, as the program and the reference reckon it. -/
theorem diff_nat {a b : Nat} (h : a ≤ b) (hb : b < 100000) : wrap64 ((b : Int) - (a : Int)) = ((b - a : Nat) : Int) := by
  rw [w64 (by omega) (by omega)]
  omega

theorem wadd (a b : Nat) (h : a + b < 100000) : wrap64 ((a : Int) + (b : Int)) = ((a + b : Nat) : Int) := by rw [← Int.natCast_add]; exact wnat _ (by omega)

theorem spans_l0 {n : Nat} {t : List Nat} (T : IsTones n t) (j : Nat) (hj0 : 1 ≤ j) (hj : j ≤ t.length) : ∀ (d i : Nat) (acc : List Nat), i + d = t.length → acc.length = i →
    Ev (fun k => even_scale_spans.l0 k j (toI acc) t.length i n (toI t)) (Lib.compact (Slices.sorted (toI (acc ++ rawFrom n t j i d))))
  | 0, i, acc, h, hl => by
    have := T.len
    refine Ev.done fun k => ?_
    simp only [even_scale_spans.l0]
    rw [if_neg (by omega)]
    simp only [slices_Sort_int_int.f, slices_Compact_int_int.f, rawFrom, List.append_nil]
    rw [if_pos (by rw [toI_length]; omega)]
    rfl
  | d + 1, i, acc, h, hl => by
    have hlen := T.len
    have hs := span_size T.rise T.lt (show i < t.length by omega) hj0 hj
    have h1 := at_f T (by omega) (i + j) (by omega)
    have h2 := at_f T (by omega) i (by omega)
    have hle := atN_le T (i + j) (by omega)
    refine Ev.step (fun k => ?_) (spans_l0 T j hj0 hj d (i + 1) (acc ++ [atN n t (i + j) - atN n t i]) (by omega) (by simp; omega) |> fun h => by simpa [rawFrom] using h)
    simp only [even_scale_spans.l0]
    rw [if_pos (by omega), wadd i j (by omega), h1, h2]
    simp only [Option.bind_some]
    rw [if_pos (by rw [toI_length]; omega), diff_nat (by omega) (by omega), wsucc i (by omega), toI_append]
    rfl

theorem spans_f {n : Nat} {t : List Nat} (T : IsTones n t) (j : Nat) (hj0 : 1 ≤ j) (hj : j < t.length) : Ev (fun k => even_scale_spans.f k n (toI t) j) (toI (sizes n t j)) := by
  have h := spans_l0 T j hj0 (by omega) t.length 0 [] (by omega) rfl
  rw [List.nil_append] at h
  unfold sizes
  rw [← compact_sorted n (raw n t j) (fun x hx => raw_lt T.rise T.lt hj0 hj x hx)]
  refine Ev.congr (fun k => ?_) h
  simp only [even_scale_spans.f]
  rw [toI_length]
  rfl

/-! ### the program's Spans, Word, Even, Two -/
theorem Spans_f (n s : Nat) (h : isScale n s = true) (j : Int) : Ev (fun k => even_Spans.f k n s j) (if 1 ≤ j ∧ j < (tones n s).length then (toI (sizes n (tones n s) j.toNat), 0) else ([], 2)) := by
  obtain ⟨h1, h2, _, _⟩ := of_decide_eq_true h
  have T := isTones n s (by omega) (by omega)
  refine Ev.bind (f := fun k (b : Int × List Int × Bool) => (if b.2.2 = true then (if j < 1 then (some (([] : List Int), 2)) else (if j ≥ (b.2.1.length : Int) then (some (([] : List Int), 2)) else ((even_scale_spans.f k b.1 b.2.1 j).bind fun t297 => (some (t297, 0))))) else (some (([] : List Int), 2)))) (read_yes n s h) ?_
  simp only [if_true]
  by_cases hj : 1 ≤ j ∧ j < ((tones n s).length : Int)
  · rw [if_pos hj]
    obtain ⟨m, rfl⟩ := Int.eq_ofNat_of_zero_le (show 0 ≤ j by omega)
    refine Ev.congr (fun k => ?_) (Ev.bind (f := fun _ z => some (z, (0 : Int))) (spans_f T m (by omega) (by omega)) (Ev.now _))
    rw [toI_length, if_neg (by omega), if_neg (by omega)]
  · rw [if_neg hj]
    refine Ev.congr (fun k => ?_) (Ev.now _)
    rw [toI_length]
    by_cases h3 : j < 1
    · rw [if_pos h3]
    · rw [if_neg h3, if_pos (by omega)]
theorem Spans_no (n s j : Int) (h : isScale n s = false) : Ev (fun k => even_Spans.f k n s j) ([], 2) :=
  Ev.bind (f := fun k (b : Int × List Int × Bool) => (if b.2.2 = true then (if j < 1 then (some (([] : List Int), 2)) else (if j ≥ (b.2.1.length : Int) then (some (([] : List Int), 2)) else ((even_scale_spans.f k b.1 b.2.1 j).bind fun t297 => (some (t297, 0))))) else (some (([] : List Int), 2)))) (read_no n s h) (Ev.now _)

theorem Word_l0 {n : Nat} {t : List Nat} (T : IsTones n t) : ∀ (d i : Nat) (acc : List Nat), i + d = t.length → acc.length = i →
    Ev (fun k => even_Word.l0 k (toI acc) t.length i n (toI t)) (toI (acc ++ rawFrom n t 1 i d), 0)
  | 0, i, acc, h, hl => by
    refine Ev.done fun k => ?_
    simp only [even_Word.l0]
    rw [if_neg (by omega)]
    simp [rawFrom]
  | d + 1, i, acc, h, hl => by
    have hlen := T.len
    have hs := span_size T.rise T.lt (show i < t.length by omega) (Nat.le_refl 1) (by omega)
    have h1 := at_f T (by omega) (i + 1) (by omega)
    have h2 := at_f T (by omega) i (by omega)
    have hle := atN_le T (i + 1) (by omega)
    refine Ev.step (fun k => ?_) (Word_l0 T d (i + 1) (acc ++ [atN n t (i + 1) - atN n t i]) (by omega) (by simp; omega) |> fun h => by simpa [rawFrom] using h)
    simp only [even_Word.l0]
    rw [if_pos (by omega), wsucc i (by omega), h1, h2]
    simp only [Option.bind_some]
    rw [if_pos (by rw [toI_length]; omega), diff_nat (by omega) (by omega), toI_append]
    rfl
theorem Word_f (n s : Nat) (h : isScale n s = true) : Ev (fun k => even_Word.f k n s) (toI (raw n (tones n s) 1), 0) := by
  obtain ⟨h1, h2, _, _⟩ := of_decide_eq_true h
  have T := isTones n s (by omega) (by omega)
  refine Ev.bind (f := fun k (b : Int × List Int × Bool) => (if b.2.2 = true then (even_Word.l0 k ([] : List Int) (b.2.1.length : Int) 0 b.1 b.2.1) else (some (([] : List Int), 2)))) (read_yes n s h) ?_
  simp only [if_true]
  refine Ev.congr (fun k => ?_) (Word_l0 T (tones n s).length 0 [] (by omega) rfl)
  rw [toI_length]
  rfl
theorem Word_no (n s : Int) (h : isScale n s = false) : Ev (fun k => even_Word.f k n s) ([], 2) :=
  Ev.bind (f := fun k (b : Int × List Int × Bool) => (if b.2.2 = true then (even_Word.l0 k ([] : List Int) (b.2.1.length : Int) 0 b.1 b.2.1) else (some (([] : List Int), 2)))) (read_no n s h) (Ev.now _)

/-- All sizes of all spans. -/
def allSizes (n : Nat) (t : List Nat) : Nat → Nat → List (List Int)
  | _, 0 => []
  | j, d + 1 => toI (sizes n t j) :: allSizes n t (j + 1) d
theorem all_f {n : Nat} {t : List Nat} (T : IsTones n t) : ∀ (d j : Nat), 1 ≤ j → j + d ≤ t.length → Ev (fun k => even_scale_steps.all k n (toI t) j d) (allSizes n t j d)
  | 0, _, _, _ => Ev.now _
  | d + 1, j, h1, h2 => by
    have ih := all_f T d (j + 1) (by omega) (by omega)
    exact Ev.bind (f := fun k z => (even_scale_steps.all k n (toI t) (j + 1) d).bind fun zs => some (z :: zs)) (spans_f T j h1 (by omega)) (Ev.bind (f := fun _ zs => some (toI (sizes n t j) :: zs)) ih (Ev.now _))

theorem ok_toI {n : Nat} {t : List Nat} (T : IsTones n t) {j : Nat} (hj0 : 1 ≤ j) (hj : j < t.length) : even_scale_even.ok (toI (sizes n t j)) = okN (sizes n t j) := by
  have hne := sizes_ne T.rise T.lt hj0 hj
  have hr : Rising (sizes n t j) := presentFrom_rising _ _ _
  have hlt : ∀ x, x ∈ sizes n t j → x < n := fun x hx => by have := (presentFrom_mem _ x n 0).1 hx; omega
  rw [ok_rising _ hr hne]
  unfold even_scale_even.ok
  have e1 : ((toI (sizes n t j)).length : Int) - 1 = (((sizes n t j).length - 1 : Nat) : Int) := by rw [toI_length]; omega
  have e0 : rd (toI (sizes n t j)) 0 = (((sizes n t j).getD 0 0 : Nat) : Int) := rd_toI _ 0
  rw [e1, rd_toI, e0]
  have b1 := getD_lt (show 0 < n by have := T.n2; omega) hlt ((sizes n t j).length - 1)
  have b0 := getD_lt (show 0 < n by have := T.n2; omega) hlt 0
  have h16 := T.n16
  have hle : (sizes n t j).getD 0 0 ≤ (sizes n t j).getD ((sizes n t j).length - 1) 0 := by
    rcases Nat.eq_zero_or_pos ((sizes n t j).length - 1) with e | e
    · rw [e]; exact Nat.le_refl _
    · exact Nat.le_of_lt (rising_get hr e (by omega))
  rw [w64 (by omega) (by omega), Bool.eq_iff_iff]
  simp
  omega
theorem all_ok {n : Nat} {t : List Nat} (T : IsTones n t) : ∀ (d j : Nat), 1 ≤ j → j + d ≤ t.length → (allSizes n t j d).all (fun z => decide (0 < z.length)) = true ∧ (allSizes n t j d).all even_scale_even.ok = evenFrom n t j d ∧ (allSizes n t j d).all even_Two.ok = twoFrom n t j d
  | 0, _, _, _ => ⟨rfl, rfl, rfl⟩
  | d + 1, j, h1, h2 => by
    obtain ⟨a, b, c⟩ := all_ok T d (j + 1) (by omega) (by omega)
    have hne := sizes_ne T.rise T.lt h1 (show j < t.length by omega)
    refine ⟨?_, ?_, ?_⟩
    · rw [allSizes, List.all_cons, a, toI_length]; simp; omega
    · rw [allSizes, List.all_cons, b, ok_toI T h1 (by omega), evenFrom]
      cases okN (sizes n t j) <;> simp
    · rw [allSizes, List.all_cons, c, twoFrom]
      unfold even_Two.ok
      rw [toI_length]
      by_cases e : (sizes n t j).length = 2 <;> simp [e]

theorem even_f {n : Nat} {t : List Nat} (T : IsTones n t) (h0 : 1 ≤ t.length) : Ev (fun k => even_scale_even.f k n (toI t)) (evenFrom n t 1 (t.length - 1)) := by
  obtain ⟨a, b, _⟩ := all_ok T (t.length - 1) 1 (Nat.le_refl _) (by omega)
  refine Ev.congr (fun k => ?_) (Ev.bind (f := fun _ (zs : List (List Int)) => if zs.all (fun z => decide (0 < z.length)) = true then some (zs.all even_scale_even.ok) else none) (all_f T (t.length - 1) 1 (Nat.le_refl _) (by omega)) (by rw [a, b]; exact Ev.now _))
  simp only [even_scale_even.f, toI_length]

theorem tones_pos (n s : Nat) (h : isScale n s = true) : 1 ≤ (tones n s).length := by
  obtain ⟨h1, h2, h3, h4⟩ := of_decide_eq_true h
  rw [Int.toNat_natCast] at h4
  have h4' : s < 2 ^ n := by exact_mod_cast h4
  have key : ∀ (d i : Nat), tonesFrom s i d = [] → ∀ x, i ≤ x → x < i + d → s.testBit x = false := by
    intro d
    induction d with
    | zero => intro i _ x h1 h2; omega
    | succ d ih =>
      intro i h x hx1 hx2
      unfold tonesFrom at h
      obtain ⟨ha, hb⟩ := List.append_eq_nil_iff.1 h
      by_cases e : x = i
      · subst e
        cases hb' : s.testBit x with
        | false => rfl
        | true => rw [hb'] at ha; simp at ha
      · exact ih (i + 1) hb x (by omega) (by omega)
  cases ht : (tones n s).length with
  | succ m => omega
  | zero =>
    have hnil : tonesFrom s 0 n = [] := List.eq_nil_of_length_eq_zero ht
    have : s = 0 := by
      apply Nat.eq_of_testBit_eq
      intro i
      rw [Nat.zero_testBit]
      by_cases hi : i < n
      · exact key n 0 hnil i (by omega) (by omega)
      · exact Nat.testBit_lt_two_pow (Nat.lt_of_lt_of_le h4' (Nat.pow_le_pow_right (by decide) (by omega)))
    omega

theorem Even_yes (n s : Nat) (h : isScale n s = true) : Ev (fun k => even_Even.f k n s) (evenN n s, 0) := by
  obtain ⟨h1, h2, _, _⟩ := of_decide_eq_true h
  have T := isTones n s (by omega) (by omega)
  refine Ev.bind (f := fun k (b : Int × List Int × Bool) => (if b.2.2 = true then ((even_scale_even.f k b.1 b.2.1).bind fun t220 => (some (t220, 0))) else (some (false, 2)))) (read_yes n s h) ?_
  simp only [if_true]
  exact Ev.bind (f := fun _ t => some (t, (0 : Int))) (even_f T (tones_pos n s h)) (Ev.now _)
theorem Even_no (n s : Int) (h : isScale n s = false) : Ev (fun k => even_Even.f k n s) (false, 2) :=
  Ev.bind (f := fun k (b : Int × List Int × Bool) => (if b.2.2 = true then ((even_scale_even.f k b.1 b.2.1).bind fun t220 => (some (t220, 0))) else (some (false, 2)))) (read_no n s h) (Ev.now _)

theorem Two_yes (n s : Nat) (h : isScale n s = true) : Ev (fun k => even_Two.f k n s) (twoN n s, 0) := by
  obtain ⟨h1, h2, _, _⟩ := of_decide_eq_true h
  have T := isTones n s (by omega) (by omega)
  obtain ⟨_, _, c⟩ := all_ok T ((tones n s).length - 1) 1 (Nat.le_refl _) (by have := tones_pos n s h; omega)
  refine Ev.bind (f := fun k (b : Int × List Int × Bool) => if b.2.2 = true then (even_scale_steps.all k b.1 b.2.1 1 (b.2.1.length - 1)).bind fun zs => some (if zs.all even_Two.ok = true then decide (b.2.1.length > 1) else false, (0 : Int)) else some (false, 2)) (read_yes n s h) ?_
  simp only [if_true, toI_length]
  refine Ev.bind (f := fun _ (zs : List (List Int)) => some (if zs.all even_Two.ok = true then decide ((tones n s).length > 1) else false, (0 : Int))) (all_f T ((tones n s).length - 1) 1 (Nat.le_refl _) (by have := tones_pos n s h; omega)) ?_
  rw [c]
  exact Ev.now _
theorem Two_no (n s : Int) (h : isScale n s = false) : Ev (fun k => even_Two.f k n s) (false, 2) :=
  Ev.bind (f := fun k (b : Int × List Int × Bool) => if b.2.2 = true then (even_scale_steps.all k b.1 b.2.1 1 (b.2.1.length - 1)).bind fun zs => some (if zs.all even_Two.ok = true then decide (b.2.1.length > 1) else false, (0 : Int)) else some (false, 2)) (read_no n s h) (Ev.now _)

end Go.Proofs.Ythbcdmbicfmeaaa.Base3
