/- Scales on a circle by natural numbers alone: scales made by division and by a step, moved scales; what is asked of them for all circles of 2 to 16 tones is reckoned by the kernel. -/
import Derived.Test.YthbcdmbicfmeaaaKit
namespace Go.Proofs.Ythbcdmbicfmeaaa.Plain
open Go.Proofs.Ythbcdmbicfmeaaa.Kit

/-- The set of all (i n + m) / k modulo n, i from i on, d of them. -/
def spreadFrom (n k m : Nat) : Nat → Nat → Nat → Nat
  | _, 0, acc => acc
  | i, d + 1, acc => spreadFrom n k m (i + 1) d (acc ||| 2 ^ ((i * n + m) / k % n))
def spread (n k m : Nat) : Nat := spreadFrom n k m 0 k 0

/-- The set of c + i g modulo n. -/
def madeFrom (n c g : Nat) : Nat → Nat → Nat → Nat
  | _, 0, acc => acc
  | i, d + 1, acc => madeFrom n c g (i + 1) d (acc ||| 2 ^ ((c + i * g) % n))
def made (n c g k : Nat) : Nat := madeFrom n c g 0 k 0

/-- Is it made by the step g from one of these tones on? -/
def anyMade (n s g k : Nat) : List Nat → Bool
  | [] => false
  | c :: t => if made n c g k = s then true else anyMade n s g k t
/-- The least step from g on, d of them asked. -/
def makerFrom (n s k : Nat) (t : List Nat) : Nat → Nat → Option Nat
  | _, 0 => none
  | g, d + 1 => if anyMade n s g k t then some g else makerFrom n s k t (g + 1) d
def maker (n s : Nat) : Option Nat := makerFrom n s (tones n s).length (tones n s) 1 (n - 1)

def moved (n s k : Nat) : Nat := (s * 2 ^ k ||| s / 2 ^ (n - k)) &&& (2 ^ n - 1)

theorem or_lt16 (a t : Nat) (ha : a < 65536) (ht : t < 16) : a ||| 2 ^ t < 65536 :=
  Nat.or_lt_two_pow (n := 16) ha (Nat.pow_lt_pow_right (by decide) ht)

/-- All natural numbers below n have it. -/
def allBelow (p : Nat → Bool) : Nat → Bool
  | 0 => true
  | n + 1 => p n && allBelow p n
theorem allBelow_spec {p : Nat → Bool} : ∀ {n : Nat}, allBelow p n = true → ∀ i, i < n → p i = true
  | 0, _, i, h => by omega
  | n + 1, hp, i, h => by
    simp only [allBelow, Bool.and_eq_true] at hp
    by_cases e : i = n
    · rw [e]; exact hp.1
    · exact allBelow_spec hp.2 i (by omega)

def stepOk (n k m : Nat) : Bool :=
  if Nat.gcd n k = 1 then
    match maker n (moved n (spread n k 0) m) with
    | some g => decide (1 ≤ g) && decide (g < n) && (decide (k < 2) || k * g % n == 1 || k * g % n == n - 1)
    | none => false
  else true

/-- The spread scale without a factor in common, moved: its least step; by the kernel, for all circles. -/
theorem stepOk_all : allBelow (fun n => allBelow (fun k => allBelow (fun m => stepOk (n + 2) (k + 1) m) (n + 2)) (n + 2)) 15 = true := by decide +kernel

end Go.Proofs.Ythbcdmbicfmeaaa.Plain
