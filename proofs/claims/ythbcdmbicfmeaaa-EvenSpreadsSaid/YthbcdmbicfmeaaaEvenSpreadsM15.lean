/- Texts that the proof of EvenSpreads needs, put together in build order by this session's program (wip/tools/claimtrim.py). -/
import Derived.Test.YthbcdmbicfmeaaaEvenSpreadsM5
import Derived.Test.YthbcdmbicfmeaaaEvenSpreadsM10
import Derived.Test.YthbcdmbicfmeaaaEvenSpreadsM13
import Derived.Test.YthbcdmbicfmeaaaEvenSpreadsM11
import Derived.Test.YthbcdmbicfmeaaaEvenSpreadsM12
import Derived.Test.YthbcdmbicfmeaaaEvenSpreadsM14
import Derived.Test.YthbcdmbicfmeaaaEvenSpreadsM3
import Derived.Test.YthbcdmbicfmeaaaEvenSpreadsM9
import Derived.Test.YthbcdmbicfmeaaaEvenSpreadsM7
import Derived.LoopIn
import Derived.LoopNIn
import Derived.OwnWalkIn
import Derived.RangeFuncBound
import Derived.RangeFuncBox
import Derived.RangeFuncCalls
import Derived.RangeFuncLeaves
import Derived.RangeFuncNested
import Derived.Shelf.Abstract
import Derived.Shelf.AbstractIn
import Derived.Shelf.RegionOpen
import Derived.Sort.BigQuietIn
import Derived.Sort.QuietIn
import Derived.TacticsInMore
import Derived.WalkKit
section
namespace Go.Proofs.Ythbcdmbicfmeaaa.P
open Go.RowKit Go.Proofs.YthbcdmbicfmeaaaW.PrintWords Go.Proofs.YthbcdmbicfmeaaaW.PrintLast Go.Proofs.YthbcdmbicfmeaaaW.PrintMore
attribute [local go_sem] max2_int min2_int max_two min_two max_three min_three max_four min_four   -- for this text's walks alone
set_option linter.unusedVariables false
set_option linter.unusedSimpArgs false
section
open Go.Shelf
attribute [local go_sem] Oper.semAt_some
end
section
open Go.Shelf
attribute [local go_sem] Oper.semAt_some
theorem Boxed.below {A B : World} {b t : Nat} {v : Value} (h : Boxed A b t v) (hb : Below A.heap.size A B) : Boxed B b t v := Range.block_below h hb
end
end Go.Proofs.Ythbcdmbicfmeaaa.P
end

section
namespace Go.Proofs.Ythbcdmbicfmeaaa.Plain
open Go.Proofs.Ythbcdmbicfmeaaa.Kit
/-- The set of all (i n + m) / k modulo n, i from i on, d of them. -/
def spreadFrom (n k m : Nat) : Nat → Nat → Nat → Nat
  | _, 0, acc => acc
  | i, d + 1, acc => spreadFrom n k m (i + 1) d (acc ||| 2 ^ ((i * n + m) / k % n))
def spread (n k m : Nat) : Nat := spreadFrom n k m 0 k 0

theorem or_lt16 (a t : Nat) (ha : a < 65536) (ht : t < 16) : a ||| 2 ^ t < 65536 :=
  Nat.or_lt_two_pow (n := 16) ha (Nat.pow_lt_pow_right (by decide) ht)

end Go.Proofs.Ythbcdmbicfmeaaa.Plain
end

section
namespace Go.Proofs.Ythbcdmbicfmeaaa.Base2
open Go.RowKit Go.Proofs.Ythbcdmbicfmeaaa.P Go.Proofs.Ythbcdmbicfmeaaa.Kit Go.Proofs.Ythbcdmbicfmeaaa.Base Go.Proofs.Ythbcdmbicfmeaaa.Plain Go.Proofs.YthbcdmbicfmeaaaW.PrintWords Go.Proofs.YthbcdmbicfmeaaaW.PrintLast
def isPart (n k : Int) : Bool := decide (2 ≤ n ∧ n ≤ 16 ∧ 1 ≤ k ∧ k ≤ n)
theorem Part_f (n k : Int) : sackbutref03_Part.f n k = some (isPart n k) := by
  unfold sackbutref03_Part.f isPart
  by_cases h1 : 2 ≤ n
  · by_cases h2 : n ≤ 16
    · by_cases h3 : 1 ≤ k
      · rw [if_pos h1, if_pos h2, if_pos h3]; simp [h1, h2, h3]
      · rw [if_pos h1, if_pos h2, if_neg h3]; simp [h3]
    · rw [if_pos h1, if_neg h2]; simp [h2]
  · rw [if_neg h1]; simp [h1]
theorem isPart_nat {n k : Int} (h : isPart n k = true) : ∃ m K : Nat, n = m ∧ k = K ∧ 2 ≤ m ∧ m ≤ 16 ∧ 1 ≤ K ∧ K ≤ m := by
  obtain ⟨h1, h2, h3, h4⟩ := of_decide_eq_true h
  exact ⟨n.toNat, k.toNat, by omega, by omega, by omega, by omega, by omega, by omega⟩

theorem or_shl (a t : Nat) (ha : a < 65536) (ht : t < 16) : Go.bits .or .i64 (a : Int) (shl .i64 1 (t : Int)) = ((a ||| 2 ^ t : Nat) : Int) := by
  have h1 : 2 ^ t < 65536 := Nat.pow_lt_pow_right (a := 2) (n := 16) (by decide) ht
  have h2 := shl_nat 1 t (by omega) (by omega)
  rw [show ((1 : Nat) : Int) = 1 from rfl, Nat.one_mul] at h2
  rw [h2]
  exact or_nat a (2 ^ t) (by omega) (by omega)

theorem tmod_nat (a b : Nat) : Int.tmod (a : Int) (b : Int) = ((a % b : Nat) : Int) := rfl
theorem tdiv_nat (a b : Nat) : Int.tdiv (a : Int) (b : Int) = ((a / b : Nat) : Int) := rfl
theorem wnat (a : Nat) (h : a < 2 ^ 62) : wrap64 (a : Int) = (a : Int) := w64 (by omega) (by omega)

theorem mul_lt {a b A B : Nat} (ha : a ≤ A) (hb : b ≤ B) : a * b ≤ A * B := Nat.mul_le_mul ha hb

theorem Spread_l0 (n k m : Nat) (hn0 : 0 < n) (hn : n ≤ 16) (hk0 : 0 < k) (hk : k ≤ 16) (hm : m ≤ 16) : ∀ (d i acc : Nat), i + d = k → acc < 65536 →
    Ev (fun r => even_Spread.l0 r n k m acc k i) (((spreadFrom n k m i d acc : Nat) : Int), 0)
  | 0, i, acc, h, _ => by
    refine Ev.done fun r => ?_
    simp only [even_Spread.l0]
    rw [if_neg (by omega)]
    rfl
  | d + 1, i, acc, h, ha => by
    have hin : i * n ≤ 16 * 16 := mul_lt (by omega) hn
    have e1 : wrap64 ((i : Int) * (n : Int)) = ((i * n : Nat) : Int) := by rw [← Int.natCast_mul]; exact wnat _ (by omega)
    have e2 : wrap64 (((i * n : Nat) : Int) + (m : Int)) = ((i * n + m : Nat) : Int) := by rw [← Int.natCast_add]; exact wnat _ (by omega)
    have hd : (i * n + m) / k ≤ i * n + m := Nat.div_le_self _ _
    have e3 : wrap64 (Int.tdiv ((i * n + m : Nat) : Int) (k : Int)) = (((i * n + m) / k : Nat) : Int) := by rw [tdiv_nat]; exact wnat _ (by omega)
    have hlt : (i * n + m) / k % n < 16 := Nat.lt_of_lt_of_le (Nat.mod_lt _ hn0) hn
    refine Ev.step (fun r => ?_) (Spread_l0 n k m hn0 hn hk0 hk hm d (i + 1) (acc ||| 2 ^ ((i * n + m) / k % n)) (by omega) (or_lt16 _ _ ha hlt))
    simp only [even_Spread.l0]
    rw [e1, e2, e3, tmod_nat, or_shl _ _ ha hlt, wsucc i (by omega), if_pos (by omega), if_neg (by omega), if_neg (by omega), if_pos (by omega)]

theorem Spread_yes (n k m : Nat) (h : isPart n k = true) (hm : m < n) : Ev (fun r => even_Spread.f r n k m) (((spread n k m : Nat) : Int), 0) := by
  obtain ⟨h1, h2, h3, h4⟩ := of_decide_eq_true h
  have h0 := Spread_l0 n k m (by omega) (by omega) (by omega) (by omega) (by omega) k 0 0 (by omega) (by omega)
  have h6 : Ev (fun r => even_Spread.j0 r n k m false) (((spread n k m : Nat) : Int), 0) := by
    refine Ev.step (f := fun r => even_Spread.l0 r n k m 0 k 0) (fun r => ?_) h0
    simp only [even_Spread.j0, Bool.false_eq_true, if_false]
  refine Ev.congr (fun r => ?_) h6
  unfold even_Spread.f
  rw [isCircle_f]
  simp only [Option.bind_some]
  rw [if_pos (by simp; omega), if_neg (by omega), if_neg (by omega), if_neg (by omega), decide_eq_false (by omega)]

theorem Spread_no (n k m : Int) (h : ¬ (isPart n k = true ∧ 0 ≤ m ∧ m < n)) : Ev (fun r => even_Spread.f r n k m) (0, 2) := by
  have h6 : Ev (fun r => even_Spread.j0 r n k m true) (0, 2) := Ev.done fun r => by simp only [even_Spread.j0, if_true]
  refine Ev.congr (fun r => ?_) h6
  unfold even_Spread.f
  rw [isCircle_f]
  simp only [Option.bind_some]
  by_cases h1 : 2 ≤ n ∧ n ≤ 16
  · rw [if_pos (by simpa using h1)]
    by_cases h2 : k < 1
    · rw [if_pos h2]
    · rw [if_neg h2]
      by_cases h3 : k > n
      · rw [if_pos h3]
      · rw [if_neg h3]
        by_cases h4 : m < 0
        · rw [if_pos h4]
        · rw [if_neg h4, decide_eq_true]
          by_cases h5 : m < n
          · exact absurd ⟨decide_eq_true ⟨h1.1, h1.2, by omega, by omega⟩, by omega, h5⟩ h
          · omega
  · rw [if_neg (by simpa using h1)]

end Go.Proofs.Ythbcdmbicfmeaaa.Base2
end

section
namespace Go.Proofs.Ythbcdmbicfmeaaa.Plain
open Go.Proofs.Ythbcdmbicfmeaaa.Kit
/-- t(i). -/
def atN (n : Nat) (t : List Nat) (i : Nat) : Nat := t.getD (i % t.length) 0 + i / t.length * n
/-- The sizes of the spans of j steps from t(i) on, d of them. -/
def rawFrom (n : Nat) (t : List Nat) (j : Nat) : Nat → Nat → List Nat
  | _, 0 => []
  | i, d + 1 => (atN n t (i + j) - atN n t i) :: rawFrom n t j (i + 1) d
def raw (n : Nat) (t : List Nat) (j : Nat) : List Nat := rawFrom n t j 0 t.length
end Go.Proofs.Ythbcdmbicfmeaaa.Plain
end

section
namespace Go.Proofs.Ythbcdmbicfmeaaa.Base3
open Go.RowKit Go.Proofs.Ythbcdmbicfmeaaa.P Go.Proofs.Ythbcdmbicfmeaaa.Kit Go.Proofs.Ythbcdmbicfmeaaa.Base Go.Proofs.Ythbcdmbicfmeaaa.Base2 Go.Proofs.Ythbcdmbicfmeaaa.Plain Go.Proofs.YthbcdmbicfmeaaaW.PrintWords Go.Proofs.YthbcdmbicfmeaaaW.PrintLast
end Go.Proofs.Ythbcdmbicfmeaaa.Base3
end

section
namespace Go.Proofs.Ythbcdmbicfmeaaa.Base4
open Go.RowKit Go.Proofs.Ythbcdmbicfmeaaa.P Go.Proofs.Ythbcdmbicfmeaaa.Kit Go.Proofs.Ythbcdmbicfmeaaa.Base Go.Proofs.Ythbcdmbicfmeaaa.Base2 Go.Proofs.Ythbcdmbicfmeaaa.Base3 Go.Proofs.Ythbcdmbicfmeaaa.Plain Go.Proofs.YthbcdmbicfmeaaaW.PrintWords Go.Proofs.YthbcdmbicfmeaaaW.PrintLast
/-- slices.Equal of a list with itself. -/
theorem Equal_l0 (l : List Int) (hl : l.length < 100000) : ∀ (d i : Nat), i + d = l.length → Ev (fun k => slices_Equal_int_int.l0 k l l l.length i) true
  | 0, i, h => by
    refine Ev.done fun k => ?_
    simp only [slices_Equal_int_int.l0]
    rw [if_neg (by omega)]
  | d + 1, i, h => by
    refine Ev.step (fun k => ?_) (Equal_l0 l hl d (i + 1) (by omega))
    simp only [slices_Equal_int_int.l0, if_true]
    rw [if_pos (by omega), if_pos (by omega), if_pos (by omega), if_pos (by omega), wsucc i (by omega)]
theorem Equal_same (l : List Int) (hl : l.length < 100000) : Ev (fun k => slices_Equal_int_int.f k l l) true := by
  refine Ev.congr (fun k => ?_) (Equal_l0 l hl l.length 0 (by omega))
  simp only [slices_Equal_int_int.f, if_true]
  rfl

end Go.Proofs.Ythbcdmbicfmeaaa.Base4
end

section
namespace Go.Proofs.Ythbcdmbicfmeaaa.Base
open Go.RowKit Go.Proofs.Ythbcdmbicfmeaaa.P Go.Proofs.Ythbcdmbicfmeaaa.Kit Go.Proofs.Ythbcdmbicfmeaaa.Base2 Go.Proofs.Ythbcdmbicfmeaaa.Plain Go.Proofs.YthbcdmbicfmeaaaW.PrintWords Go.Proofs.YthbcdmbicfmeaaaW.PrintLast
theorem rS_l2 (y : List Int) (b : Nat) (hb : b ≤ 100) : ∀ (d j : Nat) (acc : List Int), j + d = b → acc.length + d * y.length ≤ 1000 → Ev (fun q => sackbutref03_Strokes.l2 q y acc b j) (acc ++ (List.replicate d y).flatten)
  | 0, j, acc, h, _ => by
    refine Ev.done fun q => ?_
    simp only [sackbutref03_Strokes.l2]
    rw [if_neg (by omega)]
    simp
  | d + 1, j, acc, h, hl => by
    rw [Nat.add_mul, Nat.one_mul] at hl
    have ih := rS_l2 y b hb d (j + 1) (acc ++ y) (by omega) (by rw [List.length_append]; omega)
    have e : acc ++ (List.replicate (d + 1) y).flatten = acc ++ y ++ (List.replicate d y).flatten := by
      rw [List.replicate_succ, List.flatten_cons, List.append_assoc]
    rw [e]
    refine Ev.step (fun q => ?_) ih
    simp only [sackbutref03_Strokes.l2]
    rw [if_pos (by omega), if_pos (by omega), w64 (x := (j : Int) + 1) (by omega) (by omega)]
    rfl
theorem rS_l1 (x y : List Int) (a b : Nat) (ha : a ≤ 100) (hb : b ≤ 100) : ∀ (d j : Nat) (acc : List Int), j + d = a → acc.length + d * x.length + b * y.length ≤ 1000 → Ev (fun q => sackbutref03_Strokes.l1 q x y b acc a j) (acc ++ (List.replicate d x ++ List.replicate b y).flatten)
  | 0, j, acc, h, hl => by
    have h2 := rS_l2 y b hb b 0 acc (by omega) (by omega)
    refine Ev.step (fun q => ?_) (by simpa using h2)
    simp only [sackbutref03_Strokes.l1]
    rw [if_neg (by omega)]
  | d + 1, j, acc, h, hl => by
    rw [Nat.add_mul, Nat.one_mul] at hl
    have ih := rS_l1 x y a b ha hb d (j + 1) (acc ++ x) (by omega) (by rw [List.length_append]; omega)
    have e : acc ++ (List.replicate (d + 1) x ++ List.replicate b y).flatten = acc ++ x ++ (List.replicate d x ++ List.replicate b y).flatten := by
      rw [List.replicate_succ, List.cons_append, List.flatten_cons, List.append_assoc]
    rw [e]
    refine Ev.step (fun q => ?_) ih
    simp only [sackbutref03_Strokes.l1]
    rw [if_pos (by omega), if_pos (by omega), w64 (x := (j : Int) + 1) (by omega) (by omega)]
    rfl
theorem rS_l0 : ∀ (f a b : Nat) (x y : List Int), a + b ≤ f → 1 ≤ a → a + b ≤ 16 → a * x.length + b * y.length ≤ 16 → Ev (fun q => sackbutref03_Strokes.l0 q x y a b) (joined f a b x y)
  | 0, a, b, x, y, h, h1, _, _ => by omega
  | f + 1, a, b, x, y, h, h1, h16, hs => by
    have hx : x.length ≤ a * x.length := Nat.le_mul_of_pos_left _ (by omega)
    by_cases hb : 2 ≤ b
    · have hy : y.length ≤ b * y.length := Nat.le_mul_of_pos_left _ (by omega)
      have hmn : mn (a : Int) (b : Int) = ((min a b : Nat) : Int) := by unfold mn; split <;> omega
      have hmx : wrap64 (mx (a : Int) (b : Int) - mn (a : Int) (b : Int)) = ((max a b - min a b : Nat) : Int) := by
        rw [hmn, w64 (by unfold mx; split <;> omega) (by unfold mx; split <;> omega)]
        unfold mx
        split <;> omega
      have hsum : min a b * (x ++ y).length + (max a b - min a b) * (if b < a then x else y).length ≤ 16 := by
        rw [List.length_append, Nat.mul_add]
        by_cases h : b < a
        · rw [if_pos h, show min a b = b by omega, show max a b = a by omega, Nat.sub_mul]
          have := Nat.mul_le_mul_right x.length (show b ≤ a by omega)
          omega
        · rw [if_neg h, show min a b = a by omega, show max a b = b by omega, Nat.sub_mul]
          have := Nat.mul_le_mul_right y.length (show a ≤ b by omega)
          omega
      have ih := rS_l0 f (min a b) (max a b - min a b) (x ++ y) (if b < a then x else y) (by omega) (by omega) (by omega) hsum
      rw [show joined (f + 1) a b x y = joined f (min a b) (max a b - min a b) (x ++ y) (if b < a then x else y) by rw [joined, if_pos hb]]
      refine Ev.step (fun q => ?_) ih
      simp only [sackbutref03_Strokes.l0, Option.bind_some, List.nil_append, List.length_nil]
      rw [if_pos (by omega), if_pos (by omega), if_pos (by omega), hmx, hmn]
      by_cases h : b < a
      · rw [if_pos h, if_pos (by omega)]
      · rw [if_neg h, if_neg (by omega)]
    · rw [show joined (f + 1) a b x y = (List.replicate a x ++ List.replicate b y).flatten by rw [joined, if_neg hb]]
      have h2 := rS_l1 x y a b (by omega) (by omega) a 0 [] (by omega) (by simp; omega)
      refine Ev.step (fun q => ?_) (by simpa using h2)
      simp only [sackbutref03_Strokes.l0]
      rw [if_neg (by omega)]
theorem rStrokes_f (n k : Nat) (h : isPart n k = true) : Ev (fun q => sackbutref03_Strokes.f q n k) (joined n k (n - k) [1] [0]) := by
  obtain ⟨h1, h2, h3, h4⟩ := of_decide_eq_true h
  have h0 := rS_l0 n k (n - k) [1] [0] (by omega) (by omega) (by omega) (by simp; omega)
  refine Ev.congr (fun q => ?_) h0
  unfold sackbutref03_Strokes.f
  rw [w64 (x := (n : Int) - (k : Int)) (by omega) (by omega), show (n : Int) - (k : Int) = ((n - k : Nat) : Int) by omega]
theorem joined_length : ∀ (f a b : Nat) (x y : List Int), (joined f a b x y).length = a * x.length + b * y.length
  | 0, a, b, x, y => by simp [joined]
  | f + 1, a, b, x, y => by
    unfold joined
    by_cases hb : 2 ≤ b
    · rw [if_pos hb, joined_length f, List.length_append, Nat.mul_add]
      by_cases h : b < a
      · rw [if_pos h, show min a b = b by omega, show max a b = a by omega, Nat.sub_mul]
        have := Nat.mul_le_mul_right x.length (show b ≤ a by omega)
        omega
      · rw [if_neg h, show min a b = a by omega, show max a b = b by omega, Nat.sub_mul]
        have := Nat.mul_le_mul_right y.length (show a ≤ b by omega)
        omega
    · rw [if_neg hb]
      simp
theorem Strokes_yes (n k : Nat) (h : isPart n k = true) : even_Strokes.f n k = some (joined n k (n - k) [1] [0], 0) := by
  obtain ⟨h1, h2, h3, h4⟩ := of_decide_eq_true h
  unfold even_Strokes.f
  rw [isCircle_f]
  simp only [Option.bind_some]
  rw [if_pos ⟨decide_eq_true ⟨h1, h2⟩, h3, h4⟩, if_pos ⟨h1, h2⟩, Int.toNat_natCast, Int.toNat_natCast, show ((n : Int) - (k : Int)).toNat = n - k by omega]
theorem Strokes_no (n k : Int) (h : isPart n k = false) : even_Strokes.f n k = some ([], 2) := by
  unfold even_Strokes.f
  rw [isCircle_f]
  simp only [Option.bind_some]
  rw [if_neg]
  rintro ⟨h1, h3, h4⟩
  obtain ⟨h1, h2⟩ := of_decide_eq_true h1
  have : isPart n k = true := decide_eq_true ⟨h1, h2, h3, h4⟩
  rw [h] at this
  cases this
theorem rSpread_l0 (n k m : Nat) (hn0 : 0 < n) (hn : n ≤ 16) (hk0 : 0 < k) (hk : k ≤ 16) (hm : m ≤ 16) : ∀ (d i acc : Nat), i + d = k → acc < 65536 →
    Ev (fun r => sackbutref03_Spread.l0 r n k m acc k i) ((spreadFrom n k m i d acc : Nat) : Int)
  | 0, i, acc, h, _ => by
    refine Ev.done fun r => ?_
    simp only [sackbutref03_Spread.l0]
    rw [if_neg (by omega)]
    rfl
  | d + 1, i, acc, h, ha => by
    have hin : i * n ≤ 16 * 16 := Base2.mul_lt (by omega) hn
    have e1 : wrap64 ((i : Int) * (n : Int)) = ((i * n : Nat) : Int) := by rw [← Int.natCast_mul]; exact wnat _ (by omega)
    have e2 : wrap64 (((i * n : Nat) : Int) + (m : Int)) = ((i * n + m : Nat) : Int) := by rw [← Int.natCast_add]; exact wnat _ (by omega)
    have hd : (i * n + m) / k ≤ i * n + m := Nat.div_le_self _ _
    have e3 : wrap64 (Int.tdiv ((i * n + m : Nat) : Int) (k : Int)) = (((i * n + m) / k : Nat) : Int) := by rw [tdiv_nat]; exact wnat _ (by omega)
    have hlt : (i * n + m) / k % n < 16 := Nat.lt_of_lt_of_le (Nat.mod_lt _ hn0) hn
    refine Ev.step (fun r => ?_) (rSpread_l0 n k m hn0 hn hk0 hk hm d (i + 1) (acc ||| 2 ^ ((i * n + m) / k % n)) (by omega) (or_lt16 _ _ ha hlt))
    simp only [sackbutref03_Spread.l0]
    rw [e1, e2, e3, tmod_nat, or_shl _ _ ha hlt, wsucc i (by omega), if_pos (by omega), if_neg (by omega), if_neg (by omega), if_pos (by omega)]
theorem rSpread_f (n k m : Nat) (h : isPart n k = true) (hm : m < n) : Ev (fun r => sackbutref03_Spread.f r n k m) ((spread n k m : Nat) : Int) := by
  obtain ⟨h1, h2, h3, h4⟩ := of_decide_eq_true h
  exact rSpread_l0 n k m (by omega) (by omega) (by omega) (by omega) (by omega) k 0 0 (by omega) (by omega)
end Go.Proofs.Ythbcdmbicfmeaaa.Base
end

section
namespace Go.Proofs.Ythbcdmbicfmeaaa.Pure
open Go.RowKit Go.Proofs.Ythbcdmbicfmeaaa.P Go.Proofs.Ythbcdmbicfmeaaa.Base Go.Proofs.Ythbcdmbicfmeaaa.Base2 Go.Proofs.Ythbcdmbicfmeaaa.Plain Go.Proofs.Ythbcdmbicfmeaaa.Kit Go.Proofs.YthbcdmbicfmeaaaW.PrintWords Go.Proofs.YthbcdmbicfmeaaaW.PrintLast
theorem EvenSpreads : sackbutlaw03_EvenSpreads.Pure := by
  intro n k m _ _ _
  refine Ev.rounds ?_
  unfold sackbutlaw03_EvenSpreads.f
  simp only [Part_f]
  cases hp : isPart n k with
  | false =>
    refine Ev.bind (Spread_no n k m (fun h => by rw [hp] at h; cases h.1)) ?_
    rw [Strokes_no n k hp]
    simp only [Option.bind_some, Bool.false_eq_true, if_false, List.length_nil, if_true]
    rw [show ((0 : Nat) : Int) = 0 from rfl]
    simp only [if_true]
    refine Ev.bind awake_f ?_
    exact Ev.now _
  | true =>
    obtain ⟨n, k, rfl, rfl, h1, h2, h3, h4⟩ := isPart_nat hp
    rw [Strokes_yes n k hp]
    simp only [Option.bind_some, if_true]
    have hl := joined_length n k (n - k) [1] [0]
    have hE := Base4.Equal_same (joined n k (n - k) [1] [0]) (by rw [hl]; simp; omega)
    by_cases hm : 0 ≤ m ∧ m < (n : Int)
    · obtain ⟨m, rfl⟩ : ∃ q : Nat, m = (q : Int) := ⟨m.toNat, by omega⟩
      have hmn : m < n := by omega
      refine Ev.bind (Spread_yes n k m hp hmn) ?_
      refine Ev.bind (rStrokes_f n k hp) ?_
      refine Ev.bind hE ?_
      simp only [if_true]
      refine Ev.bind awake_f ?_
      simp only [Bool.not_true]
      refine Ev.step (f := fun q => (sackbutref03_Spread.f q n k m).bind fun t197 => (if ((spread n k m : Nat) : Int) = t197 then (some ((0 : Int) == 0)) else (some false))) (fun q => ?_) (Ev.bind (rSpread_f n k m hp hmn) ?_)
      · simp only [sackbutlaw03_EvenSpreads.j0]
        rw [if_neg (by decide), if_neg (by omega), if_neg (by omega)]
      · simp only [if_true]
        exact Ev.now _
    · refine Ev.bind (Spread_no n k m (fun h => hm h.2)) ?_
      refine Ev.bind (rStrokes_f n k hp) ?_
      refine Ev.bind hE ?_
      simp only [if_true]
      refine Ev.bind awake_f ?_
      simp only [Bool.not_true]
      refine Ev.done fun q => ?_
      simp only [sackbutlaw03_EvenSpreads.j0]
      rw [if_neg (by decide)]
      by_cases h0 : m < 0
      · rw [if_pos h0]; rfl
      · rw [if_neg h0, if_pos (by omega)]; rfl
end Go.Proofs.Ythbcdmbicfmeaaa.Pure
end
