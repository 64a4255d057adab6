/- What the reference's spans, Spans, Even, Word, Two and the library's slices.Equal compute, told by plain functions on natural numbers. -/
import Derived.Test.YthbcdmbicfmeaaaP10
import Derived.Test.YthbcdmbicfmeaaaP2
import Derived.Test.YthbcdmbicfmeaaaP5
import Derived.Test.YthbcdmbicfmeaaaP8
import Derived.Test.YthbcdmbicfmeaaaP9
import Derived.Test.YthbcdmbicfmeaaaBase3
namespace Go.Proofs.Ythbcdmbicfmeaaa.Base4
open Go.RowKit Go.Proofs.Ythbcdmbicfmeaaa.P Go.Proofs.Ythbcdmbicfmeaaa.Kit Go.Proofs.Ythbcdmbicfmeaaa.Base Go.Proofs.Ythbcdmbicfmeaaa.Base2 Go.Proofs.Ythbcdmbicfmeaaa.Base3 Go.Proofs.Ythbcdmbicfmeaaa.Plain Go.Proofs.YthbcdmbicfmeaaaW.PrintWords Go.Proofs.YthbcdmbicfmeaaaW.PrintLast

theorem small_s {n s : Nat} (h : isScale n s = true) : s < 2 ^ 62 := by
  obtain ⟨_, h2, _, h4⟩ := of_decide_eq_true h
  rw [Int.toNat_natCast] at h4
  have h5 : s < 2 ^ n := by exact_mod_cast h4
  have := pow_lt n (by omega)
  omega

theorem rspans_l0 {n : Nat} {t : List Nat} (T : IsTones n t) (j : Nat) (hj0 : 1 ≤ j) (hj : j < t.length) : ∀ (d i : Nat) (acc : List Nat), i + d = t.length → acc.length = i →
    Ev (fun k => sackbutref03_spans.l0 k n j (toI t) (toI acc) t.length i) (toI (acc ++ rawFrom n t j i d))
  | 0, i, acc, h, hl => by
    refine Ev.done fun k => ?_
    simp only [sackbutref03_spans.l0]
    rw [if_neg (by omega), rawFrom, List.append_nil]
  | d + 1, i, acc, h, hl => by
    have hlen := T.len
    have h16 := T.n16
    have hs := span_size T.rise T.lt (show i < t.length by omega) hj0 (by omega)
    have hlo := atN_low n t i (by omega)
    have b1 := T.lt _ (Plain.getD_mem (show i < t.length by omega))
    refine Ev.step (fun k => ?_) (rspans_l0 T j hj0 hj d (i + 1) (acc ++ [atN n t (i + j) - atN n t i]) (by omega) (by simp; omega) |> fun h => by simpa [rawFrom] using h)
    have hmod : (i + j) % t.length < t.length := Nat.mod_lt _ (by omega)
    simp only [sackbutref03_spans.l0]
    rw [wadd i j (by omega), toI_length, tmod_nat, rd_toI, rd_toI, wsucc i (by omega), if_pos (by omega), if_neg (by omega), if_pos (by omega), if_pos (by omega), if_pos (by omega), if_pos (by omega)]
    by_cases hge : t.length ≤ i + j
    · have hhi := atN_high n t (i + j) hge (by omega)
      rw [Nat.mod_eq_sub_mod hge, Nat.mod_eq_of_lt (show i + j - t.length < t.length by omega)]
      have b2 := T.lt _ (Plain.getD_mem (show i + j - t.length < t.length by omega))
      have e1 : wrap64 (wrap64 (((t.getD (i + j - t.length) 0 : Nat) : Int) - ((t.getD i 0 : Nat) : Int)) + (n : Int)) = ((atN n t (i + j) - atN n t i : Nat) : Int) := by
        rw [w64 (x := ((t.getD (i + j - t.length) 0 : Nat) : Int) - ((t.getD i 0 : Nat) : Int)) (by omega) (by omega), w64 (by omega) (by omega)]
        omega
      rw [if_pos (by omega), e1, if_pos (by rw [toI_length]; omega), toI_append]
      rfl
    · have hlo2 := atN_low n t (i + j) (by omega)
      rw [Nat.mod_eq_of_lt (show i + j < t.length by omega)]
      have b2 := T.lt _ (Plain.getD_mem (show i + j < t.length by omega))
      rw [if_neg (by omega), diff_nat (by omega) (by omega), if_pos (by rw [toI_length]; omega), toI_append, ← hlo2, ← hlo]
      rfl
theorem rspans_f (n s : Nat) (h : isScale n s = true) (j : Nat) (hj0 : 1 ≤ j) (hj : j < (tones n s).length) : Ev (fun k => sackbutref03_spans.f k n s j) (toI (raw n (tones n s) j)) := by
  obtain ⟨h1, h2, _, _⟩ := of_decide_eq_true h
  have T := isTones n s (by omega) (by omega)
  refine Ev.bind (f := fun k (t : List Int) => sackbutref03_spans.l0 k n j t ([] : List Int) (t.length : Int) 0) (Tones_f n s (by omega) (small_s h)) ?_
  rw [toI_length]
  exact rspans_l0 T j hj0 hj (tones n s).length 0 [] (by omega) rfl

theorem rSpans_l1 (n s j x : Nat) (acc : List Nat) (R : List Nat) (hR : R.length ≤ 16) (hacc : acc.length ≤ 100) (hx : x < 100) (r : List Int)
    (hyes : memB x R = true → Ev (fun k => sackbutref03_Spans.l0 k n s j (toI (acc ++ [x])) n ((x + 1 : Nat) : Int)) r) (hno : memB x R = false → Ev (fun k => sackbutref03_Spans.l0 k n s j (toI acc) n ((x + 1 : Nat) : Int)) r) :
    ∀ (d i : Nat), i + d = R.length → memB x R = memB x (R.drop i) → Ev (fun k => sackbutref03_Spans.l1 k n s j (toI acc) x n x (toI R) R.length i) r
  | 0, i, h, hm => by
    rw [List.drop_eq_nil_of_le (by omega)] at hm
    refine Ev.step (fun k => ?_) (hno hm)
    simp only [sackbutref03_Spans.l1]
    rw [if_neg (by omega), wsucc x (by omega)]
  | d + 1, i, h, hm => by
    rw [drop_cons R i (by omega)] at hm
    by_cases e : x = R.getD i 0
    · refine Ev.step (fun k => ?_) (hyes (by rw [hm, memB, if_pos e]))
      simp only [sackbutref03_Spans.l1]
      rw [toI_length, rd_toI, if_pos (by omega), if_pos (by omega), if_pos (by omega), if_pos (by omega), if_pos (by rw [toI_length]; omega), wsucc x (by omega), toI_append]
      rfl
    · refine Ev.step (fun k => ?_) (rSpans_l1 n s j x acc R hR hacc hx r hyes hno d (i + 1) (by omega) (by rw [hm, memB, if_neg e]))
      simp only [sackbutref03_Spans.l1]
      rw [toI_length, rd_toI, if_pos (by omega), if_pos (by omega), if_pos (by omega), if_neg (by omega), wsucc i (by omega)]
theorem rSpans_l0 (n s : Nat) (h : isScale n s = true) (j : Nat) (hj0 : 1 ≤ j) (hj : j < (tones n s).length) : ∀ (d x : Nat) (acc : List Nat), x + d = n → acc.length ≤ x →
    Ev (fun k => sackbutref03_Spans.l0 k n s j (toI acc) n x) (toI (acc ++ presentFrom (raw n (tones n s) j) x d))
  | 0, x, acc, hx, ha => by
    refine Ev.done fun k => ?_
    simp only [sackbutref03_Spans.l0]
    rw [if_neg (by omega), presentFrom, List.append_nil]
  | d + 1, x, acc, hx, ha => by
    obtain ⟨h1, h2, _, _⟩ := of_decide_eq_true h
    have T := isTones n s (by omega) (by omega)
    have hrl : (raw n (tones n s) j).length = (tones n s).length := rawFrom_length _ _ _ _ _
    have hlen := T.len
    refine Ev.step (f := fun k => (sackbutref03_spans.f k n s j).bind fun t243 => (sackbutref03_Spans.l1 k n s j (toI acc) x n x t243 (t243.length : Int) 0)) (fun k => ?_) (Ev.bind (rspans_f n s h j hj0 hj) ?_)
    · simp only [sackbutref03_Spans.l0]
      rw [if_pos (by omega)]
    · rw [toI_length]
      refine rSpans_l1 n s j x acc (raw n (tones n s) j) (by omega) (by omega) (by omega) _ (fun hm => ?_) (fun hm => ?_) (raw n (tones n s) j).length 0 (by omega) (by simp)
      · have := rSpans_l0 n s h j hj0 hj d (x + 1) (acc ++ [x]) (by omega) (by simp; omega)
        rw [presentFrom, if_pos hm]
        simpa using this
      · have := rSpans_l0 n s h j hj0 hj d (x + 1) acc (by omega) (by omega)
        rw [presentFrom, if_neg (by rw [hm]; decide)]
        exact this
theorem rSpans_f (n s : Nat) (h : isScale n s = true) (j : Nat) (hj0 : 1 ≤ j) (hj : j < (tones n s).length) : Ev (fun k => sackbutref03_Spans.f k n s j) (toI (sizes n (tones n s) j)) :=
  rSpans_l0 n s h j hj0 hj n 0 [] (by omega) (by simp)

theorem rEven_l0 (n s : Nat) (h : isScale n s = true) : ∀ (d j : Nat), 1 ≤ j → j + d = (tones n s).length → Ev (fun k => sackbutref03_Even.l0 k n s j) (evenFrom n (tones n s) j d)
  | 0, j, h1, h2 => by
    obtain ⟨g1, g2, _, _⟩ := of_decide_eq_true h
    refine Ev.step (f := fun k => (sackbutref03_Tones.f k n s).bind fun t300 => (if (j : Int) < (t300.length : Int) then ((sackbutref03_Spans.f k n s j).bind fun t303 => (if (t303.length : Int) > 2 then (some false) else (if (t303.length : Int) = 2 then (if 1 < (t303.length : Int) then (if 0 < (t303.length : Int) then (if (wrap64 ((rd t303 1) - (rd t303 0))) = 1 then (sackbutref03_Even.l0 k n s (wrap64 ((j : Int) + 1))) else (some false)) else (none)) else (none)) else (sackbutref03_Even.l0 k n s (wrap64 ((j : Int) + 1)))))) else (some true))) (fun k => by simp only [sackbutref03_Even.l0]) (Ev.bind (Tones_f n s (by omega) (small_s h)) ?_)
    refine Ev.congr (fun k => ?_) (Ev.now _)
    rw [toI_length, if_neg (by omega)]
    rfl
  | d + 1, j, h1, h2 => by
    obtain ⟨g1, g2, _, _⟩ := of_decide_eq_true h
    have T := isTones n s (by omega) (by omega)
    have hlen := T.len
    have ih := rEven_l0 n s h d (j + 1) (by omega) (by omega)
    have hsz := rSpans_f n s h j h1 (by omega)
    have hlt : ∀ x, x ∈ sizes n (tones n s) j → x < 16 := fun x hx => by have := (presentFrom_mem _ x n 0).1 hx; omega
    have b0 := getD_lt (show 0 < 16 by decide) hlt 0
    have b1 := getD_lt (show 0 < 16 by decide) hlt 1
    have hr : Rising (sizes n (tones n s) j) := presentFrom_rising _ _ _
    refine Ev.step (f := fun k => (sackbutref03_Tones.f k n s).bind fun t300 => (if (j : Int) < (t300.length : Int) then ((sackbutref03_Spans.f k n s j).bind fun t303 => (if (t303.length : Int) > 2 then (some false) else (if (t303.length : Int) = 2 then (if 1 < (t303.length : Int) then (if 0 < (t303.length : Int) then (if (wrap64 ((rd t303 1) - (rd t303 0))) = 1 then (sackbutref03_Even.l0 k n s (wrap64 ((j : Int) + 1))) else (some false)) else (none)) else (none)) else (sackbutref03_Even.l0 k n s (wrap64 ((j : Int) + 1)))))) else (some true))) (fun k => by simp only [sackbutref03_Even.l0]) (Ev.bind (Tones_f n s (by omega) (small_s h)) ?_)
    rw [toI_length, wsucc j (by omega)]
    have c0 : (j : Int) < ((tones n s).length : Int) := by omega
    simp only [c0, if_true]
    refine Ev.bind hsz ?_
    rw [toI_length]
    rw [evenFrom]
    unfold okN
    by_cases hgt : (sizes n (tones n s) j).length > 2
    · refine Ev.congr (fun k => ?_) (Ev.now _)
      rw [if_pos (by omega), if_pos hgt]
      rfl
    · rw [if_neg hgt]
      by_cases htwo : (sizes n (tones n s) j).length = 2
      · have hlt01 := rising_get hr (show 0 < 1 by omega) (by omega)
        have e0 : rd (toI (sizes n (tones n s) j)) 0 = (((sizes n (tones n s) j).getD 0 0 : Nat) : Int) := rd_toI _ 0
        have e1 : rd (toI (sizes n (tones n s) j)) 1 = (((sizes n (tones n s) j).getD 1 0 : Nat) : Int) := rd_toI _ 1
        rw [if_pos htwo, e0, e1, diff_nat (by omega) (by omega)]
        by_cases hone : (sizes n (tones n s) j).getD 1 0 - (sizes n (tones n s) j).getD 0 0 = 1
        · refine Ev.congr (fun k => ?_) (by rw [show ((sizes n (tones n s) j).getD 1 0 - (sizes n (tones n s) j).getD 0 0 == 1) = true by simp only [beq_iff_eq]; exact hone, if_pos rfl]; exact ih)
          rw [if_neg (by omega), if_pos (by omega), if_pos (by omega), if_pos (by omega), if_pos (by omega)]
        · refine Ev.congr (fun k => ?_) (by rw [show ((sizes n (tones n s) j).getD 1 0 - (sizes n (tones n s) j).getD 0 0 == 1) = false by simp only [beq_eq_false_iff_ne, ne_eq]; exact hone]; exact Ev.now false)
          rw [if_neg (by omega), if_pos (by omega), if_pos (by omega), if_pos (by omega), if_neg (by omega)]
      · refine Ev.congr (fun k => ?_) (by rw [if_neg htwo, if_pos rfl]; exact ih)
        rw [if_neg (by omega), if_neg (by omega)]
theorem rEven_f (n s : Nat) (h : isScale n s = true) : Ev (fun k => sackbutref03_Even.f k n s) (evenN n s) :=
  rEven_l0 n s h ((tones n s).length - 1) 1 (Nat.le_refl _) (by have := tones_pos n s h; omega)

theorem rWord_f (n s : Nat) (h : isScale n s = true) : Ev (fun k => sackbutref03_Word.f k n s) (toI (raw n (tones n s) 1)) := by
  obtain ⟨h1, h2, _, _⟩ := of_decide_eq_true h
  have hp := tones_pos n s h
  refine Ev.bind (f := fun k (t : List Int) => (if (t.length : Int) = 1 then (some (([(n : Int)] : List Int))) else ((sackbutref03_spans.f k n s 1).bind fun t314 => (some t314)))) (Tones_f n s (by omega) (small_s h)) ?_
  rw [toI_length]
  by_cases e : (tones n s).length = 1
  · refine Ev.congr (fun k => ?_) (Ev.now _)
    rw [if_pos (by omega)]
    obtain ⟨x, hx⟩ := List.length_eq_one_iff.1 e
    rw [hx]
    simp [raw, rawFrom, atN, toI]
  · refine Ev.congr (fun k => ?_) (Ev.bind (f := fun _ z => some z) (rspans_f n s h 1 (Nat.le_refl _) (by omega)) (Ev.now _))
    rw [if_neg (by omega)]
    rfl

theorem rTwo_l0 (n s : Nat) (h : isScale n s = true) : ∀ (d j : Nat), 1 ≤ j → j + d = (tones n s).length → Ev (fun k => sackbutref03_Two.l0 k n s (tones n s).length j) (if twoFrom n (tones n s) j d = true then decide (1 < (tones n s).length) else false)
  | 0, j, h1, h2 => by
    refine Ev.done fun k => ?_
    simp only [sackbutref03_Two.l0]
    rw [if_neg (by omega), twoFrom, if_pos rfl]
    congr 1
    rw [Bool.eq_iff_iff]
    simp
    omega
  | d + 1, j, h1, h2 => by
    obtain ⟨g1, g2, _, _⟩ := of_decide_eq_true h
    have T := isTones n s (by omega) (by omega)
    have hlen := T.len
    refine Ev.step (f := fun k => (sackbutref03_Spans.f k n s j).bind fun t253 => (if (t253.length : Int) = 2 then (sackbutref03_Two.l0 k n s (tones n s).length ((j + 1 : Nat) : Int)) else (some false))) (fun k => ?_) (Ev.bind (rSpans_f n s h j h1 (by omega)) ?_)
    · simp only [sackbutref03_Two.l0]
      rw [if_pos (by omega), wsucc j (by omega)]
    · rw [toI_length, twoFrom]
      by_cases e : (sizes n (tones n s) j).length = 2
      · refine Ev.congr (fun k => ?_) (by rw [if_pos e]; exact rTwo_l0 n s h d (j + 1) (by omega) (by omega))
        rw [if_pos (by omega)]
      · refine Ev.congr (fun k => ?_) (by rw [if_neg e, if_neg (by decide)]; exact Ev.now false)
        rw [if_neg (by omega)]
theorem rTwo_f (n s : Nat) (h : isScale n s = true) : Ev (fun k => sackbutref03_Two.f k n s) (twoN n s) := by
  obtain ⟨g1, g2, _, _⟩ := of_decide_eq_true h
  refine Ev.bind (f := fun k (t : List Int) => sackbutref03_Two.l0 k n s (t.length : Int) 1) (Tones_f n s (by omega) (small_s h)) ?_
  rw [toI_length]
  exact rTwo_l0 n s h ((tones n s).length - 1) 1 (Nat.le_refl _) (by have := tones_pos n s h; omega)

/-- slices.Equal of a list with itself. -/
theorem Equal_l0 (l : List Int) (hl : l.length < 100000) : ∀ (d i : Nat), i + d = l.length → Ev (fun k => slices_Equal_int_int.l0 k l l l.length i) true
  | 0, i, h => by
    refine Ev.done fun k => ?_
    simp only [slices_Equal_int_int.l0]
    rw [if_neg (by omega)]
  | d + 1, i, h => by
    refine Ev.step (fun k => ?_) (Equal_l0 l hl d (i + 1) (by omega))
    simp only [slices_Equal_int_int.l0, if_true]
    rw [if_pos (by omega), if_pos (by omega), if_pos (by omega), if_pos (by omega), wsucc i (by omega)]
theorem Equal_same (l : List Int) (hl : l.length < 100000) : Ev (fun k => slices_Equal_int_int.f k l l) true := by
  refine Ev.congr (fun k => ?_) (Equal_l0 l hl l.length 0 (by omega))
  simp only [slices_Equal_int_int.f, if_true]
  rfl

end Go.Proofs.Ythbcdmbicfmeaaa.Base4
