/- What the tests of a Kind, and a walk, compute, of the program and of the reference, told by plain lists. -/
import Derived.Test.YtpaeobpmkdekfaaDoorP1
import Derived.Test.YtpaeobpmkdekfaaDoorP4
import Derived.Test.YtpaeobpmkdekfaaDoorStep
namespace Go.Proofs.YtpaeobpmkdekfaaDoor.Base
open Go.RowKit Go.Proofs.YtpaeobpmkdekfaaDoor.P Go.Proofs.YtpaeobpmkdekfaaDoor.Kit Go.Proofs.YtpaeobpmkdekfaaDoorW.PrintWords Go.Proofs.YtpaeobpmkdekfaaDoorW.PrintLast

theorem Ev.done {α : Type} {g : Nat → Option α} {r : α} (h : ∀ k, g (k + 1) = some r) : Ev g r := Ev.step (f := fun _ => some r) h (Ev.now r)
theorem wsucc (i : Nat) (h : i < 2 ^ 62) : wrap64 ((i : Int) + 1) = ((i + 1 : Nat) : Int) := by
  rw [w64 (by omega) (by omega)]
  rfl
/-- Go's ints. -/
def Int64 (x : Int) : Prop := -9223372036854775808 ≤ x ∧ x < 9223372036854775808
theorem wsub_ne {x y : Int} (hx : Int64 x) (hy : Int64 y) (h0 : 0 ≤ x) (h1 : 0 ≤ y) : wrap64 (x - y) = x - y := by
  unfold Int64 at *
  exact w64 (by omega) (by omega)
theorem valid_f (n a b : Int) (hn : Int64 n) (ha : Int64 a) (hb : Int64 b) : triads_Kind_valid.f n a b = some (isKind n a b) := by
  unfold triads_Kind_valid.f isKind
  unfold Int64 at *
  by_cases c1 : n < 5
  · rw [if_pos c1]; congr 1; symm; exact decide_eq_false (by omega)
  · rw [if_neg c1]
    by_cases c2 : n > 16
    · rw [if_pos c2]; congr 1; symm; exact decide_eq_false (by omega)
    · rw [if_neg c2]
      by_cases c3 : a ≤ 0
      · rw [if_pos c3]; congr 1; symm; exact decide_eq_false (by omega)
      · rw [if_neg c3]
        by_cases c4 : b ≤ a
        · rw [if_pos c4]; congr 1; symm; exact decide_eq_false (by omega)
        · rw [if_neg c4]
          by_cases c5 : n ≤ b
          · rw [if_pos c5]; congr 1; symm; exact decide_eq_false (by omega)
          · rw [if_neg c5, w64 (x := b - a) (by omega) (by omega), w64 (x := n - b) (by omega) (by omega)]
            by_cases c6 : a = b - a
            · rw [if_pos c6]; congr 1; symm; exact decide_eq_false (by omega)
            · rw [if_neg c6]
              by_cases c7 : b - a = n - b
              · rw [if_pos c7]; congr 1; symm; exact decide_eq_false (by omega)
              · rw [if_neg c7]
                congr 1
                rw [Bool.eq_iff_iff, bne_iff_ne, decide_eq_true_eq]
                omega
theorem rValid_f (n a b : Int) (hn : Int64 n) (ha : Int64 a) (hb : Int64 b) : sackbutref04_Valid.f n a b = some (isKind n a b) := by
  unfold sackbutref04_Valid.f isKind
  unfold Int64 at *
  by_cases c1 : n ≥ 5
  · rw [if_pos c1]
    by_cases c2 : n ≤ 16
    · rw [if_pos c2]
      by_cases c3 : a > 0
      · rw [if_pos c3]
        by_cases c4 : a < b
        · rw [if_pos c4]
          by_cases c5 : b < n
          · rw [if_pos c5, w64 (x := b - a) (by omega) (by omega), w64 (x := n - b) (by omega) (by omega)]
            by_cases c6 : a = b - a
            · rw [if_pos c6]; congr 1; symm; exact decide_eq_false (by omega)
            · rw [if_neg c6]
              by_cases c7 : a = n - b
              · rw [if_pos c7]; congr 1; symm; exact decide_eq_false (by omega)
              · rw [if_neg c7]
                congr 1
                rw [Bool.eq_iff_iff, bne_iff_ne, decide_eq_true_eq]
                omega
          · rw [if_neg c5]; congr 1; symm; exact decide_eq_false (by omega)
        · rw [if_neg c4]; congr 1; symm; exact decide_eq_false (by omega)
      · rw [if_neg c3]; congr 1; symm; exact decide_eq_false (by omega)
    · rw [if_neg c2]; congr 1; symm; exact decide_eq_false (by omega)
  · rw [if_neg c1]; congr 1; symm; exact decide_eq_false (by omega)

/-- A triad of a Kind. -/
def isTri (n t : Int) : Bool := decide (0 ≤ t ∧ t < 2 * n)
theorem notTriad_f (n t : Int) (h1 : 5 ≤ n) (h2 : n ≤ 16) : notTriad n t = !isTri n t := by
  unfold notTriad isTri
  rw [w64 (x := 2 * n) (by omega) (by omega), Bool.eq_iff_iff]
  simp
theorem isTriad_f (n a b t : Int) (hn : Int64 n) (ha : Int64 a) (hb : Int64 b) : triads_Kind_isTriad.f n a b [t] = some (isKind n a b && isTri n t) := by
  unfold triads_Kind_isTriad.f
  rw [valid_f n a b hn ha hb]
  simp only [Option.bind_some, List.any_cons, List.any_nil, Bool.or_false]
  cases h : isKind n a b with
  | false => simp
  | true =>
    obtain ⟨h1, h2, _⟩ := of_decide_eq_true h
    rw [notTriad_f n t h1 h2]
    simp

/-- A walk. -/
def walkI (n a b : Int) : List UInt8 → Int → Int
  | [], t => t
  | c :: l, t => walkI n a b l (stepI n a b t (c.toNat : Int))
theorem walk_go {n a b : Int} (h : isKind n a b = true) : ∀ (l : List UInt8) (t : Int), 0 ≤ t → t < 2 * n → triads_Kind_walk.go n a b l t = some (walkI n a b l t)
  | [], t, _, _ => rfl
  | c :: l, t, h0, h1 => by
    have hr := step_range h t (c.toNat : Int)
    rw [triads_Kind_walk.go, step_f h t _ h0 h1]
    exact walk_go h l _ hr.1 hr.2

end Go.Proofs.YtpaeobpmkdekfaaDoor.Base
