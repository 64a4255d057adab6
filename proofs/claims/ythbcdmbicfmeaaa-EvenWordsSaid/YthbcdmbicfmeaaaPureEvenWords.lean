/- EvenWords: for every input, Even, Word and Spans of the program return what the reference returns, or the documented error. Conditions: none. -/
import Derived.Test.YthbcdmbicfmeaaaP11
import Derived.Test.YthbcdmbicfmeaaaP2
import Derived.Test.YthbcdmbicfmeaaaP5
import Derived.Test.YthbcdmbicfmeaaaP8
import Derived.Test.YthbcdmbicfmeaaaBase4
namespace Go.Proofs.Ythbcdmbicfmeaaa.Pure
open Go.RowKit Go.Proofs.Ythbcdmbicfmeaaa.P Go.Proofs.Ythbcdmbicfmeaaa.Kit Go.Proofs.Ythbcdmbicfmeaaa.Base Go.Proofs.Ythbcdmbicfmeaaa.Base2 Go.Proofs.Ythbcdmbicfmeaaa.Base3 Go.Proofs.Ythbcdmbicfmeaaa.Base4 Go.Proofs.Ythbcdmbicfmeaaa.Plain Go.Proofs.YthbcdmbicfmeaaaW.PrintWords Go.Proofs.YthbcdmbicfmeaaaW.PrintLast

/-- The last part: what Spans returned. -/
theorem words_j1 (n s : Nat) (h : isScale n s = true) (j : Int) : Ev (fun k => sackbutlaw03_EvenWords.j0 k n s j (if 1 ≤ j ∧ j < (tones n s).length then (toI (sizes n (tones n s) j.toNat), (0 : Int)) else ([], 2)).1 (if 1 ≤ j ∧ j < (tones n s).length then (toI (sizes n (tones n s) j.toNat), (0 : Int)) else ([], 2)).2 false) true := by
  obtain ⟨h1, h2, _, _⟩ := of_decide_eq_true h
  have T := isTones n s (by omega) (by omega)
  have hlen := T.len
  by_cases hj : 1 ≤ j ∧ j < ((tones n s).length : Int)
  · simp only [hj, and_self, if_true]
    obtain ⟨m, rfl⟩ := Int.eq_ofNat_of_zero_le (show 0 ≤ j by omega)
    rw [Int.toNat_natCast]
    have hfin : Ev (fun k => sackbutlaw03_EvenWords.j1 k n s m (toI (sizes n (tones n s) m)) 0 false) true := by
      refine Ev.step (f := fun k => (sackbutref03_Spans.f k n s m).bind fun t338 => ((slices_Equal_int_int.f k (toI (sizes n (tones n s) m)) t338).bind fun t341 => (if t341 = true then (some ((0 : Int) == 0)) else (some false)))) (fun k => ?_) (Ev.bind (rSpans_f n s h m (by omega) (by omega)) (Ev.bind (Equal_same _ ?_) ?_))
      · simp only [sackbutlaw03_EvenWords.j1, Bool.false_eq_true, if_false]
      · rw [toI_length]
        have hsl : ∀ (l : List Nat) (d x : Nat), (presentFrom l x d).length ≤ d := by
          intro l d
          induction d with
          | zero => intro x; simp [presentFrom]
          | succ d ih =>
            intro x
            unfold presentFrom
            have := ih (x + 1)
            split <;> simp <;> omega
        have := hsl (raw n (tones n s) m) n 0
        show (presentFrom (raw n (tones n s) m) 0 n).length < 100000
        omega
      · simp only [if_true]
        exact Ev.now _
    refine Ev.step (f := fun k => (sackbutref03_Tones.f k n s).bind fun t335 => (sackbutlaw03_EvenWords.j1 k n s m (toI (sizes n (tones n s) m)) 0 (decide ((m : Int) > (wrap64 ((t335.length : Int) - 1)))))) (fun k => ?_) (Ev.bind (Tones_f n s (by omega) (small_s h)) ?_)
    · simp only [sackbutlaw03_EvenWords.j0, Bool.false_eq_true, if_false]
      rw [if_neg (by omega)]
    · rw [toI_length, w64 (x := ((tones n s).length : Int) - 1) (by omega) (by omega), decide_eq_false (by omega)]
      exact hfin
  · simp only [hj, if_false]
    have hfin : Ev (fun k => sackbutlaw03_EvenWords.j1 k n s j [] 2 true) true := Ev.done fun k => by
      simp only [sackbutlaw03_EvenWords.j1, if_true]
      rfl
    by_cases hj1 : j < 1
    · refine Ev.step (fun k => ?_) hfin
      simp only [sackbutlaw03_EvenWords.j0, Bool.false_eq_true, if_false]
      rw [if_pos hj1]
    · refine Ev.step (f := fun k => (sackbutref03_Tones.f k n s).bind fun t335 => (sackbutlaw03_EvenWords.j1 k n s j [] 2 (decide (j > (wrap64 ((t335.length : Int) - 1)))))) (fun k => ?_) (Ev.bind (Tones_f n s (by omega) (small_s h)) ?_)
      · simp only [sackbutlaw03_EvenWords.j0, Bool.false_eq_true, if_false]
        rw [if_neg hj1]
      · rw [toI_length, w64 (x := ((tones n s).length : Int) - 1) (by omega) (by omega), decide_eq_true (by omega)]
        exact hfin

theorem EvenWords : sackbutlaw03_EvenWords.Pure := by
  intro a0 a1 a2 _ _ _
  refine Ev.rounds ?_
  cases h : isScale a0 a1 with
  | true =>
    obtain ⟨n, s, rfl, rfl, hn2, hn16, _⟩ := isScale_nat h
    have hrl : (raw n (tones n s) 1).length = (tones n s).length := rawFrom_length _ _ _ _ _
    have hlen := tones_length n s
    refine Ev.bind (Even_yes n s h) (Ev.bind (Word_f n s h) (Ev.bind (Spans_f n s h a2) ?_))
    simp only [Scale_f, h, Option.bind_some, if_true]
    refine Ev.bind (rEven_f n s h) ?_
    simp only [bne_self_eq_false, Bool.false_eq_true, if_false]
    refine Ev.bind (rWord_f n s h) (Ev.bind (Equal_same _ (by rw [toI_length]; omega)) ?_)
    simp only [if_true]
    refine Ev.bind awake_f ?_
    exact words_j1 n s h a2
  | false =>
    refine Ev.bind (Even_no a0 a1 h) (Ev.bind (Word_no a0 a1 h) (Ev.bind (Spans_no a0 a1 a2 h) ?_))
    simp only [Scale_f, h, Option.bind_some, Bool.false_eq_true, if_false]
    refine Ev.congr (fun k => ?_) (Ev.bind (f := fun _ t => some t) awake_f (Ev.now _))
    have e : wrap64 ((([] : List Int).length : Int) + (([] : List Int).length : Int)) = 0 := by
      rw [w64 (by simp) (by simp)]
      rfl
    rw [e]
    simp only [if_true]

end Go.Proofs.Ythbcdmbicfmeaaa.Pure
