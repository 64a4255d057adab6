/- EvenLists: for every input, Most and List of the program return what the reference returns, or the documented error. Conditions: none. -/
import Derived.Test.YthbcdmbicfmeaaaP16
import Derived.Test.YthbcdmbicfmeaaaBase5
namespace Go.Proofs.Ythbcdmbicfmeaaa.Pure
open Go.RowKit Go.Proofs.Ythbcdmbicfmeaaa.P Go.Proofs.Ythbcdmbicfmeaaa.Kit Go.Proofs.Ythbcdmbicfmeaaa.Base Go.Proofs.Ythbcdmbicfmeaaa.Base2 Go.Proofs.Ythbcdmbicfmeaaa.Base3 Go.Proofs.Ythbcdmbicfmeaaa.Base4 Go.Proofs.Ythbcdmbicfmeaaa.Base5 Go.Proofs.Ythbcdmbicfmeaaa.Plain Go.Proofs.YthbcdmbicfmeaaaW.PrintWords Go.Proofs.YthbcdmbicfmeaaaW.PrintLast

theorem EvenLists : sackbutlaw03_EvenLists.Pure := by
  intro a0 a1 _ _
  refine Ev.rounds ?_
  cases h : isPart a0 a1 with
  | true =>
    obtain ⟨n, k, rfl, rfl, h1, h2, h3, h4⟩ := isPart_nat h
    refine Ev.bind (Most_yes n k h) (Ev.bind (List_yes n k h) ?_)
    simp only [Part_f, h, Option.bind_some, if_true]
    refine Ev.bind (rMost_f n k h) (Ev.bind (Equal_same _ (most_small n k h2)) ?_)
    simp only [if_true]
    refine Ev.bind (rList_f n k h) (Ev.bind (Equal_same _ (list_small n k h2)) ?_)
    simp only [if_true]
    exact Ev.bind (f := fun _ t => some t) awake_f (Ev.now _)
  | false =>
    refine Ev.bind (Most_no a0 a1 h) (Ev.bind (List_no a0 a1 h) ?_)
    simp only [Part_f, h, Option.bind_some, Bool.false_eq_true, if_false]
    refine Ev.congr (fun k => ?_) (Ev.bind (f := fun _ t => some t) awake_f (Ev.now _))
    have e : wrap64 ((([] : List Int).length : Int) + (([] : List Int).length : Int)) = 0 := by
      rw [w64 (by simp) (by simp)]
      rfl
    rw [e]
    simp only [if_true]

end Go.Proofs.Ythbcdmbicfmeaaa.Pure
