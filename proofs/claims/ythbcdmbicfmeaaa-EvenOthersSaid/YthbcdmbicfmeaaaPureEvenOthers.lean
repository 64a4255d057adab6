/- EvenOthers: for every input, the tones that are not in an even scale are an even one, and others are not. Conditions: none. -/
import Derived.Test.YthbcdmbicfmeaaaP7
import Derived.Test.YthbcdmbicfmeaaaBase4
import Derived.Test.YthbcdmbicfmeaaaBalanced2
namespace Go.Proofs.Ythbcdmbicfmeaaa.Pure
open Go.RowKit Go.Proofs.Ythbcdmbicfmeaaa.P Go.Proofs.Ythbcdmbicfmeaaa.Kit Go.Proofs.Ythbcdmbicfmeaaa.Base Go.Proofs.Ythbcdmbicfmeaaa.Base2 Go.Proofs.Ythbcdmbicfmeaaa.Base3 Go.Proofs.Ythbcdmbicfmeaaa.Base4 Go.Proofs.Ythbcdmbicfmeaaa.Plain Go.Proofs.YthbcdmbicfmeaaaW.PrintWords Go.Proofs.YthbcdmbicfmeaaaW.PrintLast

/-- All tones: an even scale. -/
theorem full_even (n : Nat) (h1 : 2 ≤ n) (h2 : n ≤ 16) : evenN n (2 ^ n - 1) = true := by
  have key : allBelow (fun m => evenN (m + 2) (2 ^ (m + 2) - 1)) 15 = true := by decide +kernel
  have := allBelow_spec key (n - 2) (by omega)
  rwa [show n - 2 + 2 = n by omega] at this

theorem EvenOthers : sackbutlaw03_EvenOthers.Pure := by
  intro a0 a1 _ _
  refine Ev.rounds ?_
  cases h : isScale a0 a1 with
  | false =>
    refine Ev.bind (Even_no a0 a1 h) ?_
    refine Ev.step (f := fun k => (sackbutlaw03_awake.f k).bind fun t => some t) (fun k => ?_) (Ev.bind awake_f (Ev.now _))
    simp [sackbutlaw03_EvenOthers.j0]
  | true =>
    obtain ⟨n, s, rfl, rfl, h1, h2, hs1, hs⟩ := isScale_nat h
    have hpw := pow_lt n h2
    have hp := tones_pos n s h
    have e1 : shl .i64 1 (n : Int) = ((2 ^ n : Nat) : Int) := by
      have := shl_nat 1 n (by omega) (by omega)
      rw [show ((1 : Nat) : Int) = 1 from rfl, Nat.one_mul] at this
      exact this
    have e2 : wrap64 (((2 ^ n : Nat) : Int) - 1) = ((2 ^ n - 1 : Nat) : Int) := by rw [w64 (by omega) (by omega)]; omega
    have e3 : wrap64 (((2 ^ n - 1 : Nat) : Int) - (s : Int)) = ((others n s : Nat) : Int) := diff_nat (by omega) (by omega)
    refine Ev.bind (Even_yes n s h) ?_
    simp only [if_true, Scale_f, h, Option.bind_some, Bool.not_true]
    by_cases hf : s = 2 ^ n - 1
    · refine Ev.step (f := fun k => (sackbutlaw03_awake.f k).bind fun t => some t) (fun k => ?_) (Ev.bind awake_f (Ev.now _))
      have hev : evenN n s = true := by rw [hf]; exact full_even n h1 h2
      rw [hev]
      simp only [sackbutlaw03_EvenOthers.j0, Bool.false_eq_true, if_false, if_true]
      rw [e1, e2, if_pos (by omega), if_pos (by omega)]
    · have ho : isScale n (others n s : Nat) = true := isScale_of h1 h2 (by unfold others; omega) (others_lt n s)
      have hpo := tones_pos n _ ho
      have hc := others_count n s hs
      have hev := others_even n s h1 h2 hs hp (by omega)
      refine Ev.step (f := fun k => (even_Even.f k n (others n s : Nat)).bind fun bt240 => (if bt240.2 = 0 then (if (evenN n s == bt240.1) = true then ((sackbutlaw03_awake.f k).bind fun t242 => (some t242)) else (some false)) else (some false))) (fun k => ?_) (Ev.bind (Even_yes n _ ho) ?_)
      · simp only [sackbutlaw03_EvenOthers.j0, Bool.false_eq_true, if_false]
        rw [e1, e2, if_pos (by omega), if_neg (by omega), e3]
      · rw [hev]
        simp only [if_true, beq_self_eq_true]
        exact Ev.bind awake_f (Ev.now _)

end Go.Proofs.Ythbcdmbicfmeaaa.Pure
