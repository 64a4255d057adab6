/- EvenMost: for every input, the scales with the greatest sum are just the even ones. Conditions: none. -/
import Derived.Test.YthbcdmbicfmeaaaP17
import Derived.Test.YthbcdmbicfmeaaaMost
namespace Go.Proofs.Ythbcdmbicfmeaaa.Pure
open Go.RowKit Go.Proofs.Ythbcdmbicfmeaaa.P Go.Proofs.Ythbcdmbicfmeaaa.Kit Go.Proofs.Ythbcdmbicfmeaaa.Base Go.Proofs.Ythbcdmbicfmeaaa.Base2 Go.Proofs.Ythbcdmbicfmeaaa.Base3 Go.Proofs.Ythbcdmbicfmeaaa.Base4 Go.Proofs.Ythbcdmbicfmeaaa.Base5 Go.Proofs.Ythbcdmbicfmeaaa.Plain Go.Proofs.Ythbcdmbicfmeaaa.SumLaw Go.Proofs.YthbcdmbicfmeaaaW.PrintWords Go.Proofs.YthbcdmbicfmeaaaW.PrintLast

theorem most_fin : Ev (fun k => (sackbutlaw03_awake.f k).bind fun t => some t) true := Ev.bind awake_f (Ev.now _)

theorem most_j1 (n k : Nat) (h1 : 2 ≤ n) (h2 : n ≤ 16) (h3 : 1 ≤ k) (h4 : k ≤ n) (a2 : Int) : Ev (fun q => sackbutlaw03_EvenMost.j1 q n k a2 (toI (evenList n k)) false) true := by
  obtain ⟨_, B, _, hB⟩ := most_even n k h1 h2 h3 h4
  have hin : spread n k 0 ∈ evenList n k := List.mem_filter.2 ⟨spread_in n k h1 h2 h3 h4, (spread_even n k h1 h2 h3 h4).2⟩
  have hpos : 0 < (evenList n k).length := List.length_pos_of_mem hin
  have hmem : (evenList n k).getD 0 0 ∈ allSets n k ∧ evenN n ((evenList n k).getD 0 0) = true := List.mem_filter.1 (Plain.getD_mem hpos)
  have hk0 := ((kSets_mem n k _ (2 ^ n - 1) 1).1 hmem.1).2.2
  have hs0 := allSets_scale n k h1 h2 _ hmem.1
  have hsum0 := (hB _ hk0).2.2 hmem.2
  have e0 : rd (toI (evenList n k)) 0 = (((evenList n k).getD 0 0 : Nat) : Int) := rd_toI _ 0
  refine Ev.step (f := fun q => (even_Sum.f q n ((evenList n k).getD 0 0 : Nat)).bind fun bt445 => ((even_Sum.f q n a2).bind fun bt447 => ((even_Even.f q n a2).bind fun bt449 => (if bt445.2 = 0 then (sackbutlaw03_EvenMost.j2 q n k a2 bt447.2 bt445.1 bt447.1 bt449.1 (bt447.2 != bt449.2)) else (sackbutlaw03_EvenMost.j2 q n k a2 bt447.2 bt445.1 bt447.1 bt449.1 true))))) (fun q => ?_) (Ev.bind (Sum_yes n _ hs0) ?_)
  · simp only [sackbutlaw03_EvenMost.j1, Bool.false_eq_true, if_false]
    rw [toI_length, if_pos (by omega), e0]
  · rw [hsum0]
    cases h : isScale n a2 with
    | false =>
      refine Ev.bind (Sum_no n a2 h) (Ev.bind (Even_no n a2 h) ?_)
      simp only [if_true, bne_self_eq_false]
      refine Ev.step (f := fun q => sackbutlaw03_EvenMost.j3 q 2 B 0 false true) (fun q => ?_) (Ev.step (f := fun q => (sackbutlaw03_awake.f q).bind fun t => some t) (fun q => ?_) most_fin)
      · simp [sackbutlaw03_EvenMost.j2]
      · simp [sackbutlaw03_EvenMost.j3]
    | true =>
      obtain ⟨n', s, hn', rfl, _, _, _, _⟩ := isScale_nat h
      obtain rfl : n = n' := by omega
      refine Ev.bind (Sum_yes n s h) (Ev.bind (Even_yes n s h) ?_)
      simp only [if_true, bne_self_eq_false]
      refine Ev.step (f := fun q => (sackbutref03_Tones.f q n s).bind fun t452 => (sackbutlaw03_EvenMost.j3 q 0 B (sumI n (toI (tones n s))) (evenN n s) ((t452.length : Int) != k))) (fun q => ?_) (Ev.bind (Tones_f n s (by omega) (small_s h)) ?_)
      · simp only [sackbutlaw03_EvenMost.j2, Bool.false_eq_true, if_false, if_true, Scale_f, h, Option.bind_some]
      · rw [toI_length]
        by_cases c : (tones n s).length = k
        · have hs := hB s c
          have e1 : (((tones n s).length : Int) != (k : Int)) = false := by rw [c]; simp
          have e2 : ((sumI n (toI (tones n s)) == B) == evenN n s) = true := by
            rw [beq_iff_eq, Bool.eq_iff_iff, beq_iff_eq]
            exact hs.2
          refine Ev.step (f := fun q => (sackbutlaw03_awake.f q).bind fun t => some t) (fun q => ?_) most_fin
          rw [e1]
          simp only [sackbutlaw03_EvenMost.j3, Bool.false_eq_true, if_false]
          rw [if_pos hs.1, e2, if_pos rfl]
        · have e1 : (((tones n s).length : Int) != (k : Int)) = true := by simp; omega
          refine Ev.step (f := fun q => (sackbutlaw03_awake.f q).bind fun t => some t) (fun q => ?_) most_fin
          rw [e1]
          simp [sackbutlaw03_EvenMost.j3]

theorem EvenMost : sackbutlaw03_EvenMost.Pure := by
  intro a0 a1 a2 _ _ _
  refine Ev.rounds ?_
  cases h : isPart a0 a1 with
  | false =>
    refine Ev.bind (Most_no a0 a1 h) (Ev.bind (List_no a0 a1 h) ?_)
    refine Ev.step (f := fun k => (sackbutlaw03_awake.f k).bind fun t => some t) (fun k => ?_) most_fin
    simp [sackbutlaw03_EvenMost.j0]
  | true =>
    obtain ⟨n, k, rfl, rfl, h1, h2, h3, h4⟩ := isPart_nat h
    refine Ev.bind (Most_yes n k h) (Ev.bind (List_yes n k h) ?_)
    simp only [if_true, Part_f, h, Option.bind_some, Bool.not_true]
    rw [(most_even n k h1 h2 h3 h4).1]
    have hin : spread n k 0 ∈ evenList n k := List.mem_filter.2 ⟨spread_in n k h1 h2 h3 h4, (spread_even n k h1 h2 h3 h4).2⟩
    have hpos : 0 < (evenList n k).length := List.length_pos_of_mem hin
    refine Ev.step (f := fun q => (slices_Equal_int_int.f q (toI (evenList n k)) (toI (evenList n k))).bind fun t443 => sackbutlaw03_EvenMost.j1 q n k a2 (toI (evenList n k)) (!t443)) (fun q => ?_) (Ev.bind (Equal_same _ (list_small n k h2)) (most_j1 n k h1 h2 h3 h4 a2))
    simp only [sackbutlaw03_EvenMost.j0, Bool.false_eq_true, if_false, if_true]
    rw [toI_length, if_neg (by omega)]

end Go.Proofs.Ythbcdmbicfmeaaa.Pure
