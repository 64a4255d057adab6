/- EvenTurns: for every input, whether a scale is even, its sum and its spans are the same for it moved, or turned, and the word of a scale sums to the circle. Conditions: none. -/
import Derived.Test.YthbcdmbicfmeaaaP13
import Derived.Test.YthbcdmbicfmeaaaPureEvenSteps
import Derived.Test.YthbcdmbicfmeaaaBase4
import Derived.Test.YthbcdmbicfmeaaaTurn2
namespace Go.Proofs.Ythbcdmbicfmeaaa.Turns
open Go.RowKit Go.Proofs.Ythbcdmbicfmeaaa.P Go.Proofs.Ythbcdmbicfmeaaa.Kit Go.Proofs.Ythbcdmbicfmeaaa.Base Go.Proofs.Ythbcdmbicfmeaaa.Base2 Go.Proofs.Ythbcdmbicfmeaaa.Base3 Go.Proofs.Ythbcdmbicfmeaaa.Base4 Go.Proofs.Ythbcdmbicfmeaaa.Plain Go.Proofs.Ythbcdmbicfmeaaa.SumLaw Go.Proofs.YthbcdmbicfmeaaaW.PrintWords Go.Proofs.YthbcdmbicfmeaaaW.PrintLast

/-- The bits x, x + 1, .. of s, d of them, each put to the place that f tells. -/
def gathered (s : Nat) (f : Nat → Nat) : Nat → Nat → Nat → Nat
  | _, 0, acc => acc
  | x, d + 1, acc => gathered s f (x + 1) d (acc ||| (if s.testBit x then 2 ^ f x else 0))
theorem gathered_bit (s : Nat) (f : Nat → Nat) (y : Nat) : ∀ (d x acc : Nat), (gathered s f x d acc).testBit y = true ↔ acc.testBit y = true ∨ ∃ i, x ≤ i ∧ i < x + d ∧ s.testBit i = true ∧ f i = y
  | 0, x, acc => by
    simp only [gathered]
    constructor
    · exact .inl
    · rintro (h | ⟨i, h1, h2, _⟩)
      · exact h
      · omega
  | d + 1, x, acc => by
    rw [gathered, gathered_bit s f y d (x + 1)]
    rw [Nat.testBit_or, Bool.or_eq_true]
    constructor
    · rintro ((h | h) | ⟨i, h1, h2, h3, h4⟩)
      · exact .inl h
      · right
        by_cases hx : s.testBit x = true
        · rw [if_pos hx, Nat.testBit_two_pow] at h
          exact ⟨x, Nat.le_refl _, by omega, hx, of_decide_eq_true h⟩
        · rw [if_neg hx] at h; simp at h
      · exact .inr ⟨i, by omega, by omega, h3, h4⟩
    · rintro (h | ⟨i, h1, h2, h3, h4⟩)
      · exact .inl (.inl h)
      · by_cases e : i = x
        · subst e
          left; right
          rw [if_pos h3, Nat.testBit_two_pow]
          exact decide_eq_true h4
        · exact .inr ⟨i, by omega, by omega, h3, h4⟩
theorem gathered_lt (s n : Nat) (f : Nat → Nat) (hf : ∀ x, f x < n) : ∀ (d x acc : Nat), acc < 2 ^ n → gathered s f x d acc < 2 ^ n
  | 0, _, _, h => h
  | d + 1, x, acc, h => by
    refine gathered_lt s n f hf d (x + 1) _ (Nat.or_lt_two_pow h ?_)
    split
    · exact Nat.pow_lt_pow_right (by decide) (hf x)
    · exact Nat.two_pow_pos n

/-- The place to which the law puts a tone. -/
def place (n : Nat) (turned : Bool) (x : Nat) : Nat := if turned then (n - x) % n else x % n
theorem place_lt (n : Nat) (hn : 0 < n) (turned : Bool) (x : Nat) : place n turned x < n := by
  unfold place
  split <;> exact Nat.mod_lt _ hn

/-- What the law asks of the set is the same for these two. -/
structure Same (n s s' : Nat) : Prop where
  len : (tones n s').length = (tones n s).length
  even : evenN n s' = evenN n s
  sum : sumI n (toI (tones n s')) = sumI n (toI (tones n s))
  size : ∀ j, j ≤ (tones n s).length → sizes n (tones n s') j = sizes n (tones n s) j
theorem Same.trans {n s t u : Nat} (a : Same n s t) (b : Same n t u) : Same n s u :=
  ⟨b.len.trans a.len, b.even.trans a.even, b.sum.trans a.sum, fun j hj => (b.size j (by rw [a.len]; exact hj)).trans (a.size j hj)⟩
theorem Same.of_sizes {n s s' : Nat} (hp : 0 < (tones n s).length) (len : (tones n s').length = (tones n s).length) (sum : sumI n (toI (tones n s')) = sumI n (toI (tones n s))) (size : ∀ j, j ≤ (tones n s).length → sizes n (tones n s') j = sizes n (tones n s) j) : Same n s s' :=
  ⟨len, by unfold evenN; rw [len]; exact evenFrom_congr size _ _ (by omega), sum, size⟩

theorem same_moved (n s m : Nat) (hn : 0 < n) (hs : s < 2 ^ n) (hp : 0 < (tones n s).length) (hm : m ≤ n) : Same n s (moved n s m) := by
  have h := rot n s hn hs hp m hm
  exact Same.of_sizes hp h.len h.sum (fun j _ => h.sizes j)
theorem same_placed (n s : Nat) (turned : Bool) (hn : 0 < n) (hs : s < 2 ^ n) (hp : 0 < (tones n s).length) : Same n s (gathered s (place n turned) 0 n 0) := by
  have hbit : ∀ x, n ≤ x → s.testBit x = false := fun x hx => Nat.testBit_lt_two_pow (Nat.lt_of_lt_of_le hs (Nat.pow_le_pow_right (by decide) hx))
  have key : ∀ y, y < n → (gathered s (place n turned) 0 n 0).testBit y = s.testBit (place n turned y) := by
    intro y hy
    rw [Bool.eq_iff_iff, gathered_bit]
    constructor
    · rintro (h | ⟨i, _, h2, h3, h4⟩)
      · simp at h
      · rw [← h3]
        congr 1
        subst h4
        cases turned with
        | false => simp only [place, Bool.false_eq_true, if_false]; rw [Nat.mod_mod, Nat.mod_eq_of_lt (by omega)]
        | true =>
          simp only [place, if_true]
          by_cases e : i = 0
          · subst e; rw [Nat.sub_zero, Nat.mod_self, Nat.sub_zero, Nat.mod_self]
          · rw [Nat.mod_eq_of_lt (show n - i < n by omega), show n - (n - i) = i by omega, Nat.mod_eq_of_lt (by omega)]
    · intro h
      refine .inr ⟨place n turned y, by omega, by have := place_lt n hn turned y; omega, h, ?_⟩
      cases turned with
      | false => simp only [place, Bool.false_eq_true, if_false]; rw [Nat.mod_mod, Nat.mod_eq_of_lt (by omega)]
      | true =>
        simp only [place, if_true]
        by_cases e : y = 0
        · subst e; rw [Nat.sub_zero, Nat.mod_self, Nat.sub_zero, Nat.mod_self]
        · rw [Nat.mod_eq_of_lt (show n - y < n by omega), show n - (n - y) = y by omega, Nat.mod_eq_of_lt (by omega)]
  cases turned with
  | false =>
    have e : gathered s (place n false) 0 n 0 = s := by
      apply Nat.eq_of_testBit_eq
      intro y
      by_cases hy : y < n
      · rw [key y hy]
        simp only [place, Bool.false_eq_true, if_false]
        rw [Nat.mod_eq_of_lt hy]
      · rw [hbit y (by omega), Nat.testBit_lt_two_pow (Nat.lt_of_lt_of_le (gathered_lt s n _ (place_lt n hn false) n 0 0 (Nat.two_pow_pos n)) (Nat.pow_le_pow_right (by decide) (by omega)))]
    rw [e]
    exact ⟨rfl, rfl, rfl, fun _ _ => rfl⟩
  | true =>
    have h := turn_tones n s (gathered s (place n true) 0 n 0) hn (fun y hy => by rw [key y hy]; rfl) hp
    exact Same.of_sizes hp h.len h.sum h.sizes

theorem scale_of_tones (n s : Nat) (h1 : 2 ≤ n) (h2 : n ≤ 16) (hs : s < 2 ^ n) (hp : 0 < (tones n s).length) : isScale n s = true := by
  refine isScale_of h1 h2 ?_ hs
  rcases Nat.eq_zero_or_pos s with e | e
  · subst e
    have hm := (mem_tones n 0 _).1 (Plain.getD_mem hp)
    simp at hm
  · exact e

/-! ### the word -/
theorem word_sum (n : Nat) (t : List Nat) (ht : Rising t) (hb : ∀ x, x ∈ t → x < n) (hp : 0 < t.length) : ∀ (d i : Nat), (rawFrom n t 1 i d).sum + atN n t i = atN n t (i + d)
  | 0, i => by simp [rawFrom]
  | d + 1, i => by
    have ih := word_sum n t ht hb hp d (i + 1)
    have := atN_lt_succ n t ht hb hp i
    rw [rawFrom, List.sum_cons, show i + (d + 1) = i + 1 + d by omega]
    omega

theorem word_l1 (n : Nat) (hn : n ≤ 16) (ev : Bool) (sm : Int) (L : List Int) (er : Int) (hL : L.length < 100000) (R : List Nat) (hR : R.length ≤ 16) :
    ∀ (d i acc : Nat), i + d = R.length → acc + (R.drop i).sum = n → Ev (fun k => sackbutlaw03_EvenTurns.l1 k n ev 0 ev 0 sm 0 sm 0 L er L er 0 acc (toI R) R.length i) true
  | 0, i, acc, h, hs => by
    rw [List.drop_eq_nil_of_le (by omega)] at hs
    have hs' : acc = n := by simpa using hs
    subst hs'
    refine Ev.step (f := fun k => (slices_Equal_int_int.f k L L).bind fun t => if t = true then (sackbutlaw03_awake.f k).bind fun t => some t else some false) (fun k => ?_) (Ev.bind (Equal_same L hL) ?_)
    · simp only [sackbutlaw03_EvenTurns.l1, beq_self_eq_true, if_true]
      rw [if_neg (by omega)]
    · simp only [if_true]
      exact Ev.bind awake_f (Ev.now _)
  | d + 1, i, acc, h, hs => by
    rw [drop_cons R i (by omega), List.sum_cons] at hs
    refine Ev.step (fun k => ?_) (word_l1 n hn ev sm L er hL R hR d (i + 1) (acc + R.getD i 0) (by omega) (by omega))
    simp only [sackbutlaw03_EvenTurns.l1]
    rw [if_pos (by omega), if_pos (by omega), if_pos (by rw [toI_length]; omega), rd_toI, wadd acc _ (by omega), wsucc i (by omega)]

/-! ### the law's own loop -/
theorem or_bit (s acc x y : Nat) (hs : s < 65536) (ha : acc < 65536) (hx : x < 16) (hy : y < 16) :
    Go.bits .or .i64 (acc : Int) (shl .i64 (Go.bits .and .i64 (shr .i64 (s : Int) (x : Int)) 1) (y : Int)) = ((acc ||| (if s.testBit x then 2 ^ y else 0) : Nat) : Int) := by
  rw [bit_at s x (by omega) (by omega)]
  by_cases h : s.testBit x = true
  · rw [if_pos h, if_pos h, or_shl acc y ha hy]
  · rw [if_neg h, if_neg h]
    have h2 := shl_nat 0 y (by omega) (by omega)
    rw [show ((0 : Nat) : Int) = 0 from rfl] at h2
    rw [h2, Nat.zero_mul]
    exact or_nat acc 0 (by omega) (by omega)

theorem turn_l0 (n s : Nat) (h1 : 2 ≤ n) (h2 : n ≤ 16) (hs : s < 2 ^ n) (by' j : Int) (turned : Bool) (r : Bool)
    (hr : Ev (fun k => sackbutlaw03_EvenTurns.l0 k n s by' j turned ((gathered s (place n turned) 0 n 0 : Nat) : Int) n n) r) :
    ∀ (d x acc : Nat), x + d = n → acc < 2 ^ n → gathered s (place n turned) x d acc = gathered s (place n turned) 0 n 0 → Ev (fun k => sackbutlaw03_EvenTurns.l0 k n s by' j turned acc n x) r
  | 0, x, acc, h, _, he => by
    have he' : acc = gathered s (place n turned) 0 n 0 := he
    obtain rfl : x = n := by omega
    rw [he']
    exact hr
  | d + 1, x, acc, h, ha, he => by
    have hp := pow_lt n h2
    have hpl := place_lt n (by omega) turned x
    have hlt : acc ||| (if s.testBit x then 2 ^ place n turned x else 0) < 2 ^ n := by
      refine Nat.or_lt_two_pow ha ?_
      split
      · exact Nat.pow_lt_pow_right (by decide) hpl
      · exact Nat.two_pow_pos n
    have ob := or_bit s acc x (place n turned x) (by omega) (by omega) (by omega) (by omega)
    refine Ev.step (fun k => ?_) (turn_l0 n s h1 h2 hs by' j turned r hr d (x + 1) (acc ||| (if s.testBit x then 2 ^ place n turned x else 0)) (by omega) hlt (by rw [← he, gathered]))
    rw [← ob]
    simp only [sackbutlaw03_EvenTurns.l0]
    rw [if_pos (by omega), wsucc x (by omega)]
    cases turned with
    | true =>
      have e1 : wrap64 ((n : Int) - (x : Int)) = ((n - x : Nat) : Int) := diff_nat (by omega) (by omega)
      have e2 : place n true x = (n - x) % n := rfl
      rw [if_pos rfl, if_neg (by omega), e1, tmod_nat, e2, if_pos (by omega), if_pos (by omega)]
    | false =>
      have e2 : place n false x = x := Nat.mod_eq_of_lt (by omega)
      rw [if_neg (by decide), if_pos (by omega), e2]

end Go.Proofs.Ythbcdmbicfmeaaa.Turns
namespace Go.Proofs.Ythbcdmbicfmeaaa.Pure
open Go.RowKit Go.Proofs.Ythbcdmbicfmeaaa.P Go.Proofs.Ythbcdmbicfmeaaa.Kit Go.Proofs.Ythbcdmbicfmeaaa.Base Go.Proofs.Ythbcdmbicfmeaaa.Base2 Go.Proofs.Ythbcdmbicfmeaaa.Base3 Go.Proofs.Ythbcdmbicfmeaaa.Base4 Go.Proofs.Ythbcdmbicfmeaaa.Plain Go.Proofs.Ythbcdmbicfmeaaa.SumLaw Go.Proofs.Ythbcdmbicfmeaaa.Turns Go.Proofs.YthbcdmbicfmeaaaW.PrintWords Go.Proofs.YthbcdmbicfmeaaaW.PrintLast

/-- The end of the law: all the questions. -/
theorem turns_end (n s M : Nat) (h1 : 2 ≤ n) (h2 : n ≤ 16) (h : isScale n s = true) (hM : isScale n M = true) (S : Same n s M) (j : Int) :
    Ev (fun k => (even_Even.f k n s).bind fun bt372 => ((even_Even.f k n M).bind fun bt374 => ((even_Sum.f k n s).bind fun bt376 => ((even_Sum.f k n M).bind fun bt378 => ((even_Spans.f k n s j).bind fun bt380 => ((even_Spans.f k n M j).bind fun bt384 => ((even_Word.f k n s).bind fun bt388 => (sackbutlaw03_EvenTurns.l1 k n bt372.1 bt372.2 bt374.1 bt374.2 bt376.1 bt376.2 bt378.1 bt378.2 bt380.1 bt380.2 bt384.1 bt384.2 bt388.2 0 bt388.1 (bt388.1.length : Int) 0)))))))) true := by
  have hp := tones_pos n s h
  have hlen := tones_length n s
  have hrl : (raw n (tones n s) 1).length = (tones n s).length := rawFrom_length _ _ _ _ _
  have hws := word_sum n (tones n s) (tones_rising n s) (tones_bound n s) hp (tones n s).length 0
  have hper := atN_period n (tones n s) hp 0
  have hsl : ∀ (l : List Nat) (d x : Nat), (presentFrom l x d).length ≤ d := by
    intro l d
    induction d with
    | zero => intro x; simp [presentFrom]
    | succ d ih =>
      intro x
      unfold presentFrom
      have := ih (x + 1)
      split <;> simp <;> omega
  have e1 := S.even
  have e2 := S.sum
  have hsp : Ev (fun k => even_Spans.f k n M j) (if 1 ≤ j ∧ j < (tones n s).length then (toI (sizes n (tones n s) j.toNat), 0) else ([], 2)) := by
    have := Spans_f n M hM j
    rw [S.len] at this
    by_cases c : 1 ≤ j ∧ j < ((tones n s).length : Int)
    · rw [if_pos c] at this ⊢
      rwa [S.size j.toNat (by omega)] at this
    · rw [if_neg c] at this ⊢
      exact this
  refine Ev.bind (Even_yes n s h) (Ev.bind (Even_yes n M hM) (Ev.bind (Sum_yes n s h) (Ev.bind (Sum_yes n M hM) (Ev.bind (Spans_f n s h j) (Ev.bind hsp (Ev.bind (Word_f n s h) ?_))))))
  rw [e1, e2]
  dsimp only
  rw [toI_length]
  refine word_l1 n h2 _ _ _ _ ?_ (raw n (tones n s) 1) (by omega) (raw n (tones n s) 1).length 0 0 (by omega) ?_
  · split
    · rw [toI_length]
      have : (sizes n (tones n s) j.toNat).length ≤ n := hsl _ n 0
      show (sizes n (tones n s) j.toNat).length < 100000
      omega
    · simp
  · rw [List.drop_zero]
    have : (raw n (tones n s) 1).sum = (rawFrom n (tones n s) 1 0 (tones n s).length).sum := rfl
    omega

theorem EvenTurns : sackbutlaw03_EvenTurns.Pure := by
  intro a0 a1 a2 a3 a4 _ _ _ _
  refine Ev.rounds ?_
  cases h : isScale a0 a1 with
  | false =>
    refine Ev.congr (fun k => ?_) (Ev.bind (f := fun k (b : Bool × Int) => if b.2 = 2 then ((sackbutlaw03_awake.f k).bind fun t370 => (some t370)) else (some false)) (Even_no a0 a1 h) (by simp only [if_true]; exact Ev.bind awake_f (Ev.now _)))
    simp only [sackbutlaw03_EvenTurns.f, Scale_f, h, Option.bind_some, Bool.false_eq_true, if_false]
  | true =>
    obtain ⟨n, s, rfl, rfl, h1, h2, hs1, hs⟩ := isScale_nat h
    have hp := tones_pos n s h
    have hpw := pow_lt n h2
    have hP := same_placed n s a4 (by omega) hs hp
    have hPlt := gathered_lt s n _ (place_lt n (by omega) a4) n 0 0 (Nat.two_pow_pos n)
    obtain ⟨B, hB⟩ := u64_any a2
    have hm : wrap64 (Int.tmod (IntKind.u64.wrap a2) (IntKind.u64.wrap (n : Int))) = ((B % n : Nat) : Int) := by
      rw [hB, u64_nat n (by omega), tmod_nat]
      have := Nat.mod_lt B (show 0 < n by omega)
      exact wnat _ (by omega)
    have hmlt := Nat.mod_lt B (show 0 < n by omega)
    generalize B % n = m at hm hmlt
    have hl := turn_l0 n s h1 h2 hs a2 a3 a4 true ?_ n 0 0 (by omega) (Nat.two_pow_pos n) rfl
    · refine Ev.congr (fun k => ?_) hl
      simp only [sackbutlaw03_EvenTurns.f, Scale_f, h, Option.bind_some, if_true]
      rfl
    · generalize gathered s (place n a4) 0 n 0 = T at hP hPlt ⊢
      have hS := hP.trans (same_moved n T m (by omega) hPlt (by rw [hP.len]; exact hp) (by omega))
      have hM := scale_of_tones n (moved n T m) h1 h2 (moved_lt n T m) (by rw [hS.len]; exact hp)
      have hmv := moved_f n T m (by omega) h2 (by omega) hmlt
      refine Ev.step (fun k => ?_) (turns_end n s (moved n T m) h1 h2 h hM hS a3)
      simp only [sackbutlaw03_EvenTurns.l0]
      rw [u64_nat n (by omega)] at hm ⊢
      rw [if_neg (by omega), if_neg (by omega), hm, hmv]
      rfl

end Go.Proofs.Ythbcdmbicfmeaaa.Pure
