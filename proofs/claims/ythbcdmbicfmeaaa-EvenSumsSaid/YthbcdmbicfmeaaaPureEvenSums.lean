/- EvenSums: for every input, Sum of the program returns the sum that the reference returns of a scale, and ErrArg with 0 of what is none. Conditions: none. -/
import Derived.Test.YthbcdmbicfmeaaaP3
import Derived.Test.YthbcdmbicfmeaaaSum
namespace Go.Proofs.Ythbcdmbicfmeaaa.Pure
open Go.RowKit Go.Proofs.Ythbcdmbicfmeaaa.P Go.Proofs.Ythbcdmbicfmeaaa.Base Go.Proofs.Ythbcdmbicfmeaaa.SumLaw Go.Proofs.YthbcdmbicfmeaaaW.PrintWords Go.Proofs.YthbcdmbicfmeaaaW.PrintLast

theorem EvenSums : sackbutlaw03_EvenSums.Pure := by
  intro a0 a1 _ _
  refine Ev.rounds ?_
  cases h : isScale a0 a1 with
  | true =>
    obtain ⟨n, s, rfl, rfl, _⟩ := isScale_nat h
    refine Ev.bind (f := fun k bt133 => ((sackbutref03_Scale.f n s).bind fun t135 => (if t135 = true then ((sackbutref03_Sum.f k n s).bind fun t136 => (if bt133.1 = t136 then (if bt133.2 = 0 then ((sackbutlaw03_awake.f k).bind fun t137 => (some t137)) else (some false)) else (some false))) else (if bt133.1 = 0 then (if bt133.2 = 2 then ((sackbutlaw03_awake.f k).bind fun t138 => (some t138)) else (some false)) else (some false))))) (Sum_yes n s h) ?_
    simp only [Scale_f, h, Option.bind_some, if_true]
    refine Ev.bind (f := fun k t136 => (if sumI n (Kit.toI (Kit.tones n s)) = t136 then (sackbutlaw03_awake.f k).bind fun t137 => some t137 else some false)) (RefSum n s h) ?_
    simp only [if_true]
    exact Ev.bind (f := fun _ t => some t) awake_f (Ev.now _)
  | false =>
    refine Ev.bind (f := fun k bt133 => ((sackbutref03_Scale.f a0 a1).bind fun t135 => (if t135 = true then ((sackbutref03_Sum.f k a0 a1).bind fun t136 => (if bt133.1 = t136 then (if bt133.2 = 0 then ((sackbutlaw03_awake.f k).bind fun t137 => (some t137)) else (some false)) else (some false))) else (if bt133.1 = 0 then (if bt133.2 = 2 then ((sackbutlaw03_awake.f k).bind fun t138 => (some t138)) else (some false)) else (some false))))) (Sum_no a0 a1 h) ?_
    simp only [Scale_f, h, Option.bind_some, if_true, Bool.false_eq_true, if_false]
    exact Ev.bind (f := fun _ t => some t) awake_f (Ev.now _)

end Go.Proofs.Ythbcdmbicfmeaaa.Pure
