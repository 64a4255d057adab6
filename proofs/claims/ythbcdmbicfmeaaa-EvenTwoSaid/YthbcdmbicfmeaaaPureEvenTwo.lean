/- EvenTwo: for every input, an even scale without a factor in common, and not of all tones or of one, has the two sizes, and a scale that has them is made by a step. Conditions: none. -/
import Derived.Test.YthbcdmbicfmeaaaP12
import Derived.Test.YthbcdmbicfmeaaaBase4
import Derived.Test.YthbcdmbicfmeaaaTwoSizes
namespace Go.Proofs.Ythbcdmbicfmeaaa.Pure
open Go.RowKit Go.Proofs.Ythbcdmbicfmeaaa.P Go.Proofs.Ythbcdmbicfmeaaa.Kit Go.Proofs.Ythbcdmbicfmeaaa.Base Go.Proofs.Ythbcdmbicfmeaaa.Base2 Go.Proofs.Ythbcdmbicfmeaaa.Base3 Go.Proofs.Ythbcdmbicfmeaaa.Base4 Go.Proofs.Ythbcdmbicfmeaaa.Plain Go.Proofs.YthbcdmbicfmeaaaW.PrintWords Go.Proofs.YthbcdmbicfmeaaaW.PrintLast

theorem fin_f : Ev (fun k => (sackbutlaw03_awake.f k).bind fun t => some t) true := Ev.bind awake_f (Ev.now _)

/-- The law's questions about the step, of a scale that has the two sizes. -/
theorem two_yes (n g : Nat) (h1 : 1 ≤ g) (h2 : g < n) : Ev (fun k => if (0 : Int) = 0 then (if (g : Int) ≥ 1 then (if (g : Int) < (n : Int) then ((sackbutlaw03_awake.f k).bind fun t => some t) else some false) else some false) else some false) true := by
  refine Ev.congr (fun k => ?_) fin_f
  rw [if_pos rfl, if_pos (by omega), if_pos (by omega)]
theorem two_no (m : Option Nat) : Ev (fun k => if (told m).2 = 0 then ((sackbutlaw03_awake.f k).bind fun t => some t) else (if (told m).2 = 4 then ((sackbutlaw03_awake.f k).bind fun t => some t) else some false)) true := by
  cases m with
  | some g => exact Ev.congr (fun k => if_pos rfl) fin_f
  | none => exact Ev.congr (fun k => by rw [if_neg (by decide : ¬ (told none).2 = 0), if_pos (by decide : (told none).2 = 4)]) fin_f

theorem EvenTwo : sackbutlaw03_EvenTwo.Pure := by
  intro a0 a1 _ _
  refine Ev.rounds ?_
  cases h : isScale a0 a1 with
  | false =>
    refine Ev.bind (Two_no a0 a1 h) ?_
    refine Ev.step (f := fun k => (sackbutlaw03_awake.f k).bind fun t => some t) (fun k => ?_) fin_f
    simp [sackbutlaw03_EvenTwo.j0]
  | true =>
    obtain ⟨n, s, rfl, rfl, h1, h2, hs1, hs⟩ := isScale_nat h
    have hp := tones_pos n s h
    have hg := gcd_f (tones n s).length n
    refine Ev.bind (Two_yes n s h) ?_
    simp only [if_true, Scale_f, h, Option.bind_some, Bool.not_true]
    refine Ev.step (fun k => by simp only [sackbutlaw03_EvenTwo.j0, Bool.false_eq_true, if_false]; rfl) (Ev.bind (Even_yes n s h) (Ev.bind (Maker_yes n s h) (Ev.bind (Tones_f n s (by omega) (small_s h)) ?_)))
    rw [toI_length]
    simp only [if_true]
    cases hT : twoN n s with
    | true =>
      have hT' : twoFrom n (tones n s) 1 ((tones n s).length - 1) = true ∧ 1 < (tones n s).length := by
        unfold twoN at hT
        split at hT
        · rename_i hh; exact ⟨hh, of_decide_eq_true hT⟩
        · simp at hT
      obtain ⟨g, hm, hg1, hg2⟩ := two_made n s h1 h2 hs hT'.2 hT'.1
      have hy := two_yes n g hg1 hg2
      have ht : told (some g) = ((g : Int), (0 : Int)) := rfl
      rw [hm, ht]
      simp only [if_true] at hy ⊢
      by_cases c1 : evenN n s = true
      · by_cases c2 : ((tones n s).length : Int) ≥ 2
        · by_cases c3 : ((tones n s).length : Int) < (n : Int)
          · simp only [c1, c2, c3, if_true]
            refine Ev.bind hg ?_
            refine Ev.congr (fun k => ?_) hy
            split <;> rfl
          · simp only [c1, c2, c3, if_true, if_false]
            exact hy
        · simp only [c1, c2, if_true, if_false]
          exact hy
      · simp only [c1]
        exact hy
    | false =>
      have hn := two_no (maker n s)
      simp only [Bool.false_eq_true, if_false]
      by_cases c1 : evenN n s = true
      · by_cases c2 : ((tones n s).length : Int) ≥ 2
        · by_cases c3 : ((tones n s).length : Int) < (n : Int)
          · simp only [c1, c2, c3, if_true]
            refine Ev.bind hg ?_
            have hne : ¬ ((Nat.gcd n (tones n s).length : Nat) : Int) = 1 := by
              intro e
              have := even_two n (tones n s) (tones_rising n s) (tones_bound n s) (by omega) (by omega) c1
              unfold twoN at hT
              rw [if_pos this] at hT
              have := of_decide_eq_false hT
              omega
            simp only [hne, if_false]
            exact hn
          · simp only [c1, c2, c3, if_true, if_false]
            exact hn
        · simp only [c1, c2, if_true, if_false]
          exact hn
      · simp only [c1]
        exact hn

end Go.Proofs.Ythbcdmbicfmeaaa.Pure
