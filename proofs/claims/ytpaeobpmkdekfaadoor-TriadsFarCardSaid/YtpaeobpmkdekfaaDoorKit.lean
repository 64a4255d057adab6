/- Small facts on Go's int arithmetic and bits, and on the tones of a scale, used by the proofs of this seat. No program in sight. -/
import Derived.Test.YtpaeobpmkdekfaaDoorWMore
import Derived.Laws.BitsLemmas
namespace Go.Proofs.YtpaeobpmkdekfaaDoor.Kit
open Go.RowKit Go.Proofs.YtpaeobpmkdekfaaDoorW.PrintWords Go.Proofs.YtpaeobpmkdekfaaDoorW.PrintLast

theorem w64 {x : Int} (h0 : -9223372036854775808 ≤ x) (h1 : x < 9223372036854775808) : wrap64 x = x := by
  unfold wrap64
  omega

theorem wraps_i64 (j : Nat) (hj : j ≤ 63) (n : Int) (h0 : 0 ≤ n) (h1 : n < 2 ^ j) : IntKind.i64.wrap n = n := by
  have h2 : (2 : Int) ^ j ≤ 2 ^ 63 := by
    have : (2 : Nat) ^ j ≤ 2 ^ 63 := Nat.pow_le_pow_right (by decide) hj
    exact_mod_cast this
  have h3 : (2 : Int) ^ 63 = 9223372036854775808 := by decide
  rw [IntKind.wrap_i64]
  omega

theorem and_nat (a b : Nat) (ha : a < 2 ^ 62) (hb : b < 2 ^ 62) : Go.bits .and .i64 (a : Int) (b : Int) = ((a &&& b : Nat) : Int) :=
  (bits_nat .i64 62 (by decide) (wraps_i64 62 (by decide)) a b ha hb).1
theorem or_nat (a b : Nat) (ha : a < 2 ^ 62) (hb : b < 2 ^ 62) : Go.bits .or .i64 (a : Int) (b : Int) = ((a ||| b : Nat) : Int) :=
  (bits_nat .i64 62 (by decide) (wraps_i64 62 (by decide)) a b ha hb).2

theorem shl_nat (a x : Nat) (hx : x ≤ 62) (h : a * 2 ^ x < 2 ^ 62) : shl .i64 (a : Int) (x : Int) = ((a * 2 ^ x : Nat) : Int) := by
  unfold shl
  rw [Int.toNat_natCast, Nat.min_eq_left (by show x ≤ 64; omega)]
  have e : (a : Int) * 2 ^ x = ((a * 2 ^ x : Nat) : Int) := by simp
  rw [e]
  exact wraps_i64 62 (by decide) _ (Int.natCast_nonneg _) (by exact_mod_cast h)

theorem shr_nat (a x : Nat) (hx : x ≤ 62) : shr .i64 (a : Int) (x : Int) = ((a / 2 ^ x : Nat) : Int) := by
  unfold shr
  rw [Int.toNat_natCast, Nat.min_eq_left (by show x ≤ 64; omega)]
  simp

theorem bit_at (s x : Nat) (hs : s < 2 ^ 62) (hx : x ≤ 62) : Go.bits .and .i64 (shr .i64 (s : Int) (x : Int)) 1 = if s.testBit x then 1 else 0 := by
  rw [shr_nat s x hx]
  have h1 : s / 2 ^ x < 2 ^ 62 := Nat.lt_of_le_of_lt (Nat.div_le_self _ _) hs
  have := and_nat (s / 2 ^ x) 1 h1 (by decide)
  rw [show ((1 : Nat) : Int) = 1 from rfl] at this
  rw [this, Nat.and_one_is_mod, Nat.testBit_eq_decide_div_mod_eq]
  have h2 : s / 2 ^ x % 2 < 2 := Nat.mod_lt _ (by decide)
  by_cases h : s / 2 ^ x % 2 = 1
  · simp [h]
  · have : s / 2 ^ x % 2 = 0 := by omega
    simp [this]

/-- Whole numbers as Go's. -/
def toI (l : List Nat) : List Int := l.map fun (x : Nat) => (x : Int)
theorem toI_length (l : List Nat) : (toI l).length = l.length := by simp [toI]
theorem toI_append (l m : List Nat) : toI (l ++ m) = toI l ++ toI m := by simp [toI]
theorem toI_inj {l m : List Nat} (h : toI l = toI m) : l = m := by
  induction l generalizing m with
  | nil => cases m with
    | nil => rfl
    | cons y m => simp [toI] at h
  | cons x l ih => cases m with
    | nil => simp [toI] at h
    | cons y m =>
      simp only [toI, List.map_cons, List.cons.injEq] at h
      rw [ih h.2, Int.ofNat.inj h.1]

/-- The tones from i on, d of them asked. -/
def tonesFrom (s : Nat) : Nat → Nat → List Nat
  | _, 0 => []
  | i, d + 1 => (if s.testBit i then [i] else []) ++ tonesFrom s (i + 1) d
/-- The tones of a scale. -/
def tones (n s : Nat) : List Nat := tonesFrom s 0 n

theorem tonesFrom_length (s : Nat) : ∀ d i, (tonesFrom s i d).length ≤ d
  | 0, _ => by simp [tonesFrom]
  | d + 1, i => by
    have := tonesFrom_length s d (i + 1)
    unfold tonesFrom
    split <;> simp <;> omega
theorem tones_length (n s : Nat) : (tones n s).length ≤ n := tonesFrom_length s n 0

theorem rd_toI (l : List Nat) (i : Nat) : rd (toI l) (i : Int) = ((l.getD i 0 : Nat) : Int) := by
  unfold rd toI
  rw [Int.toNat_natCast]
  simp only [List.getD_eq_getElem?_getD, List.getElem?_map]
  cases l[i]? <;> rfl

end Go.Proofs.YtpaeobpmkdekfaaDoor.Kit
