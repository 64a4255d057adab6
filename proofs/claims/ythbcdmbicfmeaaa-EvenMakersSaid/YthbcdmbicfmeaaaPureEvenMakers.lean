/- EvenMakers: for every input, Maker and Two of the program return what the reference returns, or the documented error. Conditions: none. -/
import Derived.Test.YthbcdmbicfmeaaaP8
import Derived.Test.YthbcdmbicfmeaaaP9
import Derived.Test.YthbcdmbicfmeaaaBase4
namespace Go.Proofs.Ythbcdmbicfmeaaa.Makers
open Go.RowKit Go.Proofs.Ythbcdmbicfmeaaa.P Go.Proofs.Ythbcdmbicfmeaaa.Kit Go.Proofs.Ythbcdmbicfmeaaa.Base Go.Proofs.Ythbcdmbicfmeaaa.Base2 Go.Proofs.Ythbcdmbicfmeaaa.Base3 Go.Proofs.Ythbcdmbicfmeaaa.Base4 Go.Proofs.Ythbcdmbicfmeaaa.Plain Go.Proofs.YthbcdmbicfmeaaaW.PrintWords Go.Proofs.YthbcdmbicfmeaaaW.PrintLast

/-- The set, and whether a tone came twice. -/
def madeA (n c g : Nat) : Nat → Nat → Nat → Bool → Nat × Bool
  | _, 0, acc, again => (acc, again)
  | i, d + 1, acc, again => madeA n c g (i + 1) d (acc ||| 2 ^ ((c + i * g) % n)) (again || acc.testBit ((c + i * g) % n))
theorem madeA_set (n c g : Nat) : ∀ (d i acc : Nat) (again : Bool), (madeA n c g i d acc again).1 = madeFrom n c g i d acc
  | 0, _, _, _ => rfl
  | d + 1, i, _, _ => madeA_set n c g d (i + 1) _ _
theorem madeA_true (n c g : Nat) : ∀ (d i acc : Nat), (madeA n c g i d acc true).2 = true
  | 0, _, _ => rfl
  | d + 1, i, _ => madeA_true n c g d (i + 1) _

theorem cnt_or (acc x : Nat) : ∀ (d i : Nat), (tonesFrom (acc ||| 2 ^ x) i d).length = (tonesFrom acc i d).length + (if i ≤ x ∧ x < i + d ∧ acc.testBit x = false then 1 else 0)
  | 0, i => by simp [tonesFrom]; omega
  | d + 1, i => by
    have ih := cnt_or acc x d (i + 1)
    have hb : (acc ||| 2 ^ x).testBit i = (acc.testBit i || decide (x = i)) := by rw [Nat.testBit_or, Nat.testBit_two_pow]
    unfold tonesFrom
    rw [List.length_append, List.length_append, ih, hb]
    by_cases e : x = i
    · subst e
      have hno : ¬ (x + 1 ≤ x ∧ x < x + 1 + d ∧ acc.testBit x = false) := fun h => by omega
      rw [if_neg hno]
      cases h : acc.testBit x with
      | true => simp
      | false =>
        have hyes : x ≤ x ∧ x < x + (d + 1) ∧ (false : Bool) = false := ⟨Nat.le_refl _, by omega, rfl⟩
        rw [if_pos hyes]
        simp
        omega
    · have hd : (acc.testBit i || decide (x = i)) = acc.testBit i := by simp [e]
      rw [hd]
      have key : (if i + 1 ≤ x ∧ x < i + 1 + d ∧ acc.testBit x = false then 1 else 0 : Nat) = (if i ≤ x ∧ x < i + (d + 1) ∧ acc.testBit x = false then 1 else 0) := by
        by_cases hc : i + 1 ≤ x ∧ x < i + 1 + d ∧ acc.testBit x = false
        · rw [if_pos hc, if_pos (show i ≤ x ∧ x < i + (d + 1) ∧ acc.testBit x = false from ⟨by omega, by omega, hc.2.2⟩)]
        · rw [if_neg hc, if_neg (show ¬ (i ≤ x ∧ x < i + (d + 1) ∧ acc.testBit x = false) from fun h => hc ⟨by omega, by omega, h.2.2⟩)]
      rw [key]
      omega

theorem cnt_made (n c g : Nat) (hn : 0 < n) : ∀ (d i acc : Nat), (tones n (madeFrom n c g i d acc)).length ≤ (tones n acc).length + d ∧ ((madeA n c g i d acc false).2 = true → (tones n (madeFrom n c g i d acc)).length + 1 ≤ (tones n acc).length + d)
  | 0, _, acc => ⟨by simp [madeFrom], fun h => by simp [madeA] at h⟩
  | d + 1, i, acc => by
    have hx : (c + i * g) % n < n := Nat.mod_lt _ hn
    obtain ⟨h1, h2⟩ := cnt_made n c g hn d (i + 1) (acc ||| 2 ^ ((c + i * g) % n))
    have hc := cnt_or acc ((c + i * g) % n) n 0
    have hc' : (tones n (acc ||| 2 ^ ((c + i * g) % n))).length = (tones n acc).length + (if 0 ≤ (c + i * g) % n ∧ (c + i * g) % n < 0 + n ∧ acc.testBit ((c + i * g) % n) = false then 1 else 0) := hc
    refine ⟨?_, fun h => ?_⟩
    · have : (tones n (acc ||| 2 ^ ((c + i * g) % n))).length ≤ (tones n acc).length + 1 := by rw [hc']; split <;> omega
      show (tones n (madeFrom n c g (i + 1) d (acc ||| 2 ^ ((c + i * g) % n)))).length ≤ _
      omega
    · show (tones n (madeFrom n c g (i + 1) d (acc ||| 2 ^ ((c + i * g) % n)))).length + 1 ≤ _
      cases hb : acc.testBit ((c + i * g) % n) with
      | true =>
        rw [hb] at hc'
        simp at hc'
        omega
      | false =>
        have h' : (madeA n c g (i + 1) d (acc ||| 2 ^ ((c + i * g) % n)) false).2 = true := by
          have h0 : (madeA n c g (i + 1) d (acc ||| 2 ^ ((c + i * g) % n)) (false || acc.testBit ((c + i * g) % n))).2 = true := h
          rw [hb] at h0
          exact h0
        have := h2 h'
        have h3 : (tones n (acc ||| 2 ^ ((c + i * g) % n))).length ≤ (tones n acc).length + 1 := by rw [hc']; split <;> omega
        omega

theorem tones_zero (n : Nat) : (tones n 0).length = 0 := by
  have key : ∀ d i, tonesFrom 0 i d = [] := by
    intro d
    induction d with
    | zero => intro i; rfl
    | succ d ih => intro i; unfold tonesFrom; rw [ih]; simp
  unfold tones
  rw [key]
  rfl

/-- No tone comes twice where as many tones are made as there are steps. -/
theorem once (n s c g : Nat) (hn : 0 < n) (h : made n c g (tones n s).length = s) : (madeA n c g 0 (tones n s).length 0 false).2 = false := by
  cases hb : (madeA n c g 0 (tones n s).length 0 false).2 with
  | false => rfl
  | true =>
    have := (cnt_made n c g hn (tones n s).length 0 0).2 hb
    rw [tones_zero] at this
    have e : madeFrom n c g 0 (tones n s).length 0 = s := h
    rw [e] at this
    omega

theorem mono_bit (n c g x : Nat) : ∀ (d i acc : Nat), acc.testBit x = true → (madeFrom n c g i d acc).testBit x = true
  | 0, _, _, h => h
  | d + 1, i, acc, h => mono_bit n c g x d (i + 1) _ (by rw [Nat.testBit_or, h]; rfl)
theorem mem_tonesFrom (s x : Nat) (hb : s.testBit x = true) : ∀ (d i : Nat), i ≤ x → x < i + d → x ∈ tonesFrom s i d
  | 0, i, h1, h2 => by omega
  | d + 1, i, h1, h2 => by
    unfold tonesFrom
    by_cases e : i = x
    · subst e; rw [if_pos hb]; simp
    · exact List.mem_append.2 (.inr (mem_tonesFrom s x hb d (i + 1) (by omega) (by omega)))
/-- The first tone is one of the scale. -/
theorem first_in (n s c g k : Nat) (hc : c < n) (hk : 1 ≤ k) (h : made n c g k = s) : c ∈ tones n s := by
  refine mem_tonesFrom s c ?_ n 0 (by omega) (by omega)
  obtain ⟨m, rfl⟩ : ∃ m, k = m + 1 := ⟨k - 1, by omega⟩
  rw [← h]
  refine mono_bit n c g c m 1 _ ?_
  rw [Nat.testBit_or, Nat.testBit_two_pow]
  simp [Nat.mod_eq_of_lt hc]

theorem any_of (n s g k x : Nat) (hm : made n x g k = s) : ∀ (t : List Nat), x ∈ t → anyMade n s g k t = true
  | [], h => by simp at h
  | c :: t, h => by
    unfold anyMade
    by_cases e : made n c g k = s
    · rw [if_pos e]
    · rw [if_neg e]
      rcases List.mem_cons.1 h with e' | e'
      · rw [e'] at hm; exact absurd hm e
      · exact any_of n s g k x hm t e'
theorem of_any (n s g k : Nat) : ∀ (t : List Nat), anyMade n s g k t = true → ∃ x, x ∈ t ∧ made n x g k = s
  | [], h => by simp [anyMade] at h
  | c :: t, h => by
    unfold anyMade at h
    by_cases e : made n c g k = s
    · exact ⟨c, List.mem_cons_self, e⟩
    · rw [if_neg e] at h
      obtain ⟨x, hx, hm⟩ := of_any n s g k t h
      exact ⟨x, List.mem_cons_of_mem _ hx, hm⟩

/-- The reference's set of one step and first tone. -/
theorem ref_l2 (n s g c kk : Nat) (hn0 : 0 < n) (hn : n ≤ 16) (hg : g ≤ 16) (hc : c ≤ 16) (hkk : kk ≤ 16) (r : Int × Int)
    (hno : ¬ ((madeA n c g 0 kk 0 false).2 = false ∧ made n c g kk = s) → Ev (fun k => sackbutref03_Maker.l1 k n s kk g n ((c + 1 : Nat) : Int)) r) (hyes : (madeA n c g 0 kk 0 false).2 = false ∧ made n c g kk = s → r = ((g : Int), 0)) :
    ∀ (d i acc : Nat) (again : Bool), i + d = kk → acc < 65536 → madeA n c g 0 kk 0 false = madeA n c g i d acc again → Ev (fun k => sackbutref03_Maker.l2 k n s kk g c acc again n c kk i) r
  | 0, i, acc, again, h, _, he => by
    have e1 : (madeA n c g 0 kk 0 false).2 = again := by rw [he]; rfl
    have e2 : made n c g kk = acc := by have := madeA_set n c g kk 0 0 false; rw [he] at this; exact this.symm
    rw [e1, e2] at hno hyes
    cases again with
    | true =>
      refine Ev.step (fun k => ?_) (hno (by simp))
      simp only [sackbutref03_Maker.l2, if_true]
      rw [if_neg (by omega), wsucc c (by omega)]
    | false =>
      by_cases e : acc = s
      · have := hyes ⟨rfl, e⟩
        subst this
        refine Ev.done fun k => ?_
        simp only [sackbutref03_Maker.l2, Bool.false_eq_true, if_false]
        rw [if_neg (by omega), if_pos (by omega)]
      · refine Ev.step (fun k => ?_) (hno (by simp [e]))
        simp only [sackbutref03_Maker.l2, Bool.false_eq_true, if_false]
        rw [if_neg (by omega), if_neg (by omega), wsucc c (by omega)]
  | d + 1, i, acc, again, h, ha, he => by
    have hin : i * g ≤ 16 * 16 := mul_lt (by omega) hg
    have e1 : wrap64 ((i : Int) * (g : Int)) = ((i * g : Nat) : Int) := by rw [← Int.natCast_mul]; exact wnat _ (by omega)
    have e2 : wrap64 ((c : Int) + ((i * g : Nat) : Int)) = ((c + i * g : Nat) : Int) := by rw [← Int.natCast_add]; exact wnat _ (by omega)
    have hlt : (c + i * g) % n < 16 := Nat.lt_of_lt_of_le (Nat.mod_lt _ hn0) hn
    have hb := bit_at acc ((c + i * g) % n) (by omega) (by omega)
    refine Ev.step (fun k => ?_) (ref_l2 n s g c kk hn0 hn hg hc hkk r hno hyes d (i + 1) (acc ||| 2 ^ ((c + i * g) % n)) (again || acc.testBit ((c + i * g) % n)) (by omega) (or_lt16 _ _ ha hlt) he)
    simp only [sackbutref03_Maker.l2]
    rw [e1, e2, tmod_nat, or_shl _ _ ha hlt, hb, wsucc i (by omega), if_pos (by omega), if_neg (by omega)]
    cases again with
    | true => simp only [if_true, Bool.true_or]; rw [if_pos (by omega)]
    | false =>
      simp only [Bool.false_eq_true, if_false, Bool.false_or]
      rw [if_pos (by omega)]
      cases acc.testBit ((c + i * g) % n) <;> rfl

theorem ref_l1 (n s g : Nat) (hn0 : 0 < n) (hn : n ≤ 16) (hg : g ≤ 16) (hp : 1 ≤ (tones n s).length) (r : Int × Int)
    (hno : anyMade n s g (tones n s).length (tones n s) = false → Ev (fun k => sackbutref03_Maker.l0 k n s (tones n s).length ((g + 1 : Nat) : Int)) r) (hyes : anyMade n s g (tones n s).length (tones n s) = true → r = ((g : Int), 0)) :
    ∀ (d c : Nat), c + d = n → (∀ x, x < c → ¬ made n x g (tones n s).length = s) → Ev (fun k => sackbutref03_Maker.l1 k n s (tones n s).length g n c) r
  | 0, c, h, hlow => by
    have hf : anyMade n s g (tones n s).length (tones n s) = false := by
      cases hb : anyMade n s g (tones n s).length (tones n s) with
      | false => rfl
      | true =>
        obtain ⟨x, hx, hm⟩ := of_any n s g _ _ hb
        exact absurd hm (hlow x (by have := tones_bound n s x hx; omega))
    refine Ev.step (fun k => ?_) (hno hf)
    simp only [sackbutref03_Maker.l1]
    rw [if_neg (by omega), wsucc g (by omega)]
  | d + 1, c, h, hlow => by
    have hlen := tones_length n s
    refine Ev.step (f := fun k => sackbutref03_Maker.l2 k n s (tones n s).length g c 0 false n c (tones n s).length 0) (fun k => ?_) (ref_l2 n s g c (tones n s).length hn0 hn hg (by omega) (by omega) r (fun hne => ?_) (fun hy => ?_) (tones n s).length 0 0 false (by omega) (by omega) rfl)
    · simp only [sackbutref03_Maker.l1]
      rw [if_pos (by omega)]
    · refine ref_l1 n s g hn0 hn hg hp r hno hyes d (c + 1) (by omega) (fun x hx hm => ?_)
      by_cases e : x = c
      · rw [e] at hm
        exact hne ⟨once n s c g hn0 hm, hm⟩
      · exact hlow x (by omega) hm
    · exact hyes (any_of n s g _ c hy.2 _ (first_in n s c g _ (by omega) hp hy.2))

theorem ref_l0 (n s : Nat) (hn0 : 0 < n) (hn : n ≤ 16) (hp : 1 ≤ (tones n s).length) : ∀ (d g : Nat), g + d = n → Ev (fun k => sackbutref03_Maker.l0 k n s (tones n s).length g) (told (makerFrom n s (tones n s).length (tones n s) g d))
  | 0, g, h => by
    refine Ev.done fun k => ?_
    simp only [sackbutref03_Maker.l0]
    rw [if_neg (by omega)]
    rfl
  | d + 1, g, h => by
    refine Ev.step (f := fun k => sackbutref03_Maker.l1 k n s (tones n s).length g n 0) (fun k => ?_) (ref_l1 n s g hn0 hn (by omega) hp _ (fun hf => ?_) (fun ht => ?_) n 0 (by omega) (fun x hx => by omega))
    · simp only [sackbutref03_Maker.l0]
      rw [if_pos (by omega)]
    · simp only [makerFrom, hf, Bool.false_eq_true, if_false]
      exact ref_l0 n s hn0 hn hp d (g + 1) (by omega)
    · simp only [makerFrom, ht, if_true]
      rfl

theorem rMaker_f (n s : Nat) (h : isScale n s = true) : Ev (fun k => sackbutref03_Maker.f k n s) (told (maker n s)) := by
  obtain ⟨h1, h2, _, _⟩ := of_decide_eq_true h
  refine Ev.bind (f := fun k (t : List Int) => sackbutref03_Maker.l0 k n s (t.length : Int) 1) (Tones_f n s (by omega) (small_s h)) ?_
  rw [toI_length]
  exact ref_l0 n s (by omega) (by omega) (tones_pos n s h) (n - 1) 1 (by omega)

end Go.Proofs.Ythbcdmbicfmeaaa.Makers
namespace Go.Proofs.Ythbcdmbicfmeaaa.Pure
open Go.RowKit Go.Proofs.Ythbcdmbicfmeaaa.P Go.Proofs.Ythbcdmbicfmeaaa.Kit Go.Proofs.Ythbcdmbicfmeaaa.Base Go.Proofs.Ythbcdmbicfmeaaa.Base2 Go.Proofs.Ythbcdmbicfmeaaa.Base3 Go.Proofs.Ythbcdmbicfmeaaa.Base4 Go.Proofs.Ythbcdmbicfmeaaa.Plain Go.Proofs.YthbcdmbicfmeaaaW.PrintWords Go.Proofs.YthbcdmbicfmeaaaW.PrintLast

theorem EvenMakers : sackbutlaw03_EvenMakers.Pure := by
  intro a0 a1 _ _
  refine Ev.rounds ?_
  cases h : isScale a0 a1 with
  | true =>
    obtain ⟨n, s, rfl, rfl, hn2, hn16, _⟩ := isScale_nat h
    refine Ev.bind (Maker_yes n s h) (Ev.bind (Two_yes n s h) ?_)
    simp only [Scale_f, h, Option.bind_some, if_true]
    refine Ev.bind (Makers.rMaker_f n s h) ?_
    simp only [if_true]
    refine Ev.bind (rTwo_f n s h) ?_
    simp only [beq_self_eq_true, if_true]
    exact Ev.bind (f := fun _ t => some t) awake_f (Ev.now _)
  | false =>
    refine Ev.bind (Maker_no a0 a1 h) (Ev.bind (Two_no a0 a1 h) ?_)
    simp only [Scale_f, h, Option.bind_some, Bool.false_eq_true, if_false, if_true]
    exact Ev.bind (f := fun _ t => some t) awake_f (Ev.now _)

end Go.Proofs.Ythbcdmbicfmeaaa.Pure
