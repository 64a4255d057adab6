/- EvenSteps: for every input, an even scale without a factor in common is made by a step, of which the number of its tones makes one up or down. Conditions: none. -/
import Derived.Test.YthbcdmbicfmeaaaP2
import Derived.Test.YthbcdmbicfmeaaaP3
import Derived.Test.YthbcdmbicfmeaaaP4
import Derived.Test.YthbcdmbicfmeaaaBase2
namespace Go.Proofs.Ythbcdmbicfmeaaa.Pure
open Go.RowKit Go.Proofs.Ythbcdmbicfmeaaa.P Go.Proofs.Ythbcdmbicfmeaaa.Kit Go.Proofs.Ythbcdmbicfmeaaa.Base Go.Proofs.Ythbcdmbicfmeaaa.Base2 Go.Proofs.Ythbcdmbicfmeaaa.Plain Go.Proofs.YthbcdmbicfmeaaaW.PrintWords Go.Proofs.YthbcdmbicfmeaaaW.PrintLast

theorem spread_lt (n k m : Nat) (hn0 : 0 < n) : ∀ (d i acc : Nat), acc < 2 ^ n → spreadFrom n k m i d acc < 2 ^ n
  | 0, _, _, h => h
  | d + 1, i, acc, h => spread_lt n k m hn0 d (i + 1) _ (Nat.or_lt_two_pow h (Nat.pow_lt_pow_right (by decide) (Nat.mod_lt _ hn0)))
theorem moved_lt (n s k : Nat) : moved n s k < 2 ^ n := Nat.and_lt_two_pow _ (Nat.sub_lt (Nat.two_pow_pos n) (by decide))

theorem wsmall (a : Nat) (h : a < 100000) : wrap64 (a : Int) = (a : Int) := w64 (by omega) (by omega)
theorem step_eq (c g i : Nat) (hc : c ≤ 16) (hg : g ≤ 16) (hi : i ≤ 16) : wrap64 ((c : Int) + wrap64 ((i : Int) * (g : Int))) = ((c + i * g : Nat) : Int) := by
  have hin : i * g ≤ 16 * 16 := mul_lt hi hg
  have e1 : wrap64 ((i : Int) * (g : Int)) = ((i * g : Nat) : Int) := by rw [← Int.natCast_mul]; exact wsmall _ (by omega)
  rw [e1, ← Int.natCast_add]
  exact wsmall _ (by omega)
theorem madeFrom_succ (n c g i d acc : Nat) : madeFrom n c g i (d + 1) acc = madeFrom n c g (i + 1) d (acc ||| 2 ^ ((c + i * g) % n)) := by rw [madeFrom]
/-- The law's own search for a first tone. -/
theorem find_l1 (n k g c s : Nat) (hn0 : 0 < n) (hn : n ≤ 16) (hc : c < n) (hg : g ≤ 16) (hk : k ≤ 16) (r : Bool)
    (hr : ¬ made n c g k = s → Ev (fun q => sackbutlaw03_EvenSteps.l0 q n k s g n ((c + 1 : Nat) : Int)) r) (hr' : made n c g k = s → r = true) :
    ∀ (d i acc : Nat), i + d = k → acc < 65536 → made n c g k = madeFrom n c g i d acc → Ev (fun q => sackbutlaw03_EvenSteps.l1 q n k s g c acc n c k i) r
  | 0, i, acc, h, _, he => by
    have he' : made n c g k = acc := he
    by_cases e : acc = s
    · have hr2 := hr' (by rw [he', e])
      subst hr2
      refine Ev.step (f := fun q => (sackbutlaw03_awake.f q).bind fun t => some t) (fun q => ?_) (Ev.bind awake_f (Ev.now _))
      simp only [sackbutlaw03_EvenSteps.l1]
      rw [if_neg (by omega), if_pos (by omega)]
    · refine Ev.step (fun q => ?_) (hr (by rw [he']; exact e))
      simp only [sackbutlaw03_EvenSteps.l1]
      rw [if_neg (by omega), if_neg (by omega), wsucc c (by omega)]
  | d + 1, i, acc, h, ha, he => by
    have e1 := step_eq c g i (by omega) hg (by omega)
    have hlt : (c + i * g) % n < 16 := Nat.lt_of_lt_of_le (Nat.mod_lt _ hn0) hn
    refine Ev.step (fun q => ?_) (find_l1 n k g c s hn0 hn hc hg hk r hr hr' d (i + 1) (acc ||| 2 ^ ((c + i * g) % n)) (by omega) (or_lt16 _ _ ha hlt) (he.trans (madeFrom_succ n c g i d acc)))
    simp only [sackbutlaw03_EvenSteps.l1]
    rw [e1, tmod_nat, or_shl _ _ ha hlt, wsucc i (by omega), if_pos (by omega), if_neg (by omega), if_pos (by omega)]

theorem find_l0 (n k g s : Nat) (hn0 : 0 < n) (hn : n ≤ 16) (hg : g ≤ 16) (hk : k ≤ 16) : ∀ (d c : Nat), c + d = n → (∃ x, c ≤ x ∧ x < n ∧ made n x g k = s) → Ev (fun q => sackbutlaw03_EvenSteps.l0 q n k s g n c) true
  | 0, c, h, he => by obtain ⟨x, h1, h2, _⟩ := he; omega
  | d + 1, c, h, he => by
    refine Ev.step (f := fun q => sackbutlaw03_EvenSteps.l1 q n k s g c 0 n c k 0) (fun q => ?_) (find_l1 n k g c s hn0 hn (by omega) hg hk true (fun hne => find_l0 n k g s hn0 hn hg hk d (c + 1) (by omega) ?_) (fun _ => rfl) k 0 0 (by omega) (by omega) rfl)
    · simp only [sackbutlaw03_EvenSteps.l0]
      rw [if_pos (by omega)]
    · obtain ⟨x, h1, h2, h3⟩ := he
      refine ⟨x, ?_, h2, h3⟩
      by_cases e : x = c
      · rw [e] at h3; exact absurd h3 hne
      · omega

theorem anyMade_some (n s g k : Nat) : ∀ (t : List Nat), anyMade n s g k t = true → ∃ x, x ∈ t ∧ made n x g k = s
  | [], h => by simp [anyMade] at h
  | c :: t, h => by
    unfold anyMade at h
    by_cases e : made n c g k = s
    · exact ⟨c, List.mem_cons_self, e⟩
    · rw [if_neg e] at h
      obtain ⟨x, hx, hm⟩ := anyMade_some n s g k t h
      exact ⟨x, List.mem_cons_of_mem _ hx, hm⟩

theorem makerFrom_some (n s k : Nat) (t : List Nat) (g' : Nat) : ∀ (d g : Nat), makerFrom n s k t g d = some g' → anyMade n s g' k t = true
  | 0, _, h => by simp [makerFrom] at h
  | d + 1, g, h => by
    unfold makerFrom at h
    by_cases e : anyMade n s g k t = true
    · rw [if_pos e] at h
      obtain rfl := Option.some.inj h
      exact e
    · rw [if_neg e] at h
      exact makerFrom_some n s k t g' d (g + 1) h

theorem u64_nat (n : Nat) (h : n < 2 ^ 62) : IntKind.u64.wrap (n : Int) = (n : Int) := by
  simp only [IntKind.wrap, IntKind.bits, IntKind.signed]
  simp
  omega
theorem u64_any (x : Int) : ∃ m : Nat, IntKind.u64.wrap x = (m : Int) := by
  refine ⟨(IntKind.u64.wrap x).toNat, ?_⟩
  simp only [IntKind.wrap, IntKind.bits, IntKind.signed]
  simp
  omega

/-- The number of tones of a moved spread scale is k: by the kernel, for all circles. -/
theorem tones_all : allBelow (fun n => allBelow (fun k => allBelow (fun m => (tones (n + 2) (moved (n + 2) (spread (n + 2) (k + 1) 0) m)).length == k + 1) (n + 2)) (n + 2)) 15 = true := by decide +kernel

theorem all3 {p : Nat → Nat → Nat → Bool} (h : allBelow (fun n => allBelow (fun k => allBelow (fun m => p (n + 2) (k + 1) m) (n + 2)) (n + 2)) 15 = true) (n k m : Nat) (h1 : 2 ≤ n) (h2 : n ≤ 16) (h3 : 1 ≤ k) (h4 : k ≤ n) (h5 : m < n) : p n k m = true := by
  have a := allBelow_spec h (n - 2) (by omega)
  have b := allBelow_spec a (k - 1) (by omega)
  have c := allBelow_spec b m (by omega)
  rwa [show n - 2 + 2 = n by omega, show k - 1 + 1 = k by omega] at c

theorem moved_scale (n k m : Nat) (h1 : 2 ≤ n) (h2 : n ≤ 16) (h3 : 1 ≤ k) (h4 : k ≤ n) (h5 : m < n) : (tones n (moved n (spread n k 0) m)).length = k ∧ isScale n (moved n (spread n k 0) m : Nat) = true := by
  have ht := eq_of_beq (all3 (p := fun n k m => (tones n (moved n (spread n k 0) m)).length == k) tones_all n k m h1 h2 h3 h4 h5)
  refine ⟨ht, isScale_of h1 h2 ?_ (moved_lt n _ m)⟩
  rcases Nat.eq_zero_or_pos (moved n (spread n k 0) m) with e | e
  · rw [e] at ht
    have : (tones n 0).length = 0 := by
      have key : ∀ d i, tonesFrom 0 i d = [] := by
        intro d
        induction d with
        | zero => intro i; rfl
        | succ d ih => intro i; unfold tonesFrom; rw [ih]; simp
      unfold tones
      rw [key]
      rfl
    omega
  · exact e

theorem EvenSteps : sackbutlaw03_EvenSteps.Pure := by
  intro a0 a1 a2 _ _ _
  refine Ev.rounds ?_
  cases h : isPart a0 a1 with
  | false =>
    refine Ev.bind (f := fun k b => (if b.2 = 0 then ((sackbutref03_Part.f a0 a1).bind fun t152 => (sackbutlaw03_EvenSteps.j0 k a0 a1 a2 b.1 b.2 (!t152))) else (sackbutlaw03_EvenSteps.j0 k a0 a1 a2 b.1 b.2 true))) (Spread_no a0 a1 0 (by rw [h]; simp)) ?_
    refine Ev.step (f := fun k => (sackbutlaw03_awake.f k).bind fun t => some t) (fun k => ?_) (Ev.bind awake_f (Ev.now _))
    simp [sackbutlaw03_EvenSteps.j0]
  | true =>
    obtain ⟨n, k, rfl, rfl, h1, h2, h3, h4⟩ := isPart_nat h
    refine Ev.bind (f := fun q b => (if b.2 = 0 then ((sackbutref03_Part.f n k).bind fun t152 => (sackbutlaw03_EvenSteps.j0 q n k a2 b.1 b.2 (!t152))) else (sackbutlaw03_EvenSteps.j0 q n k a2 b.1 b.2 true))) (Spread_yes n k 0 h (by omega)) ?_
    simp only [if_true, Part_f, h, Option.bind_some, Bool.not_true]
    obtain ⟨B, hB⟩ := u64_any a2
    have hm : wrap64 (Int.tmod (IntKind.u64.wrap a2) (IntKind.u64.wrap (n : Int))) = ((B % n : Nat) : Int) := by
      rw [hB, u64_nat n (by omega), tmod_nat]
      have := Nat.mod_lt B (show 0 < n by omega)
      exact wnat _ (by omega)
    have hmlt := Nat.mod_lt B (show 0 < n by omega)
    generalize B % n = m at hm hmlt
    have hs : spread n k 0 < 65536 := Nat.lt_of_lt_of_le (spread_lt n k 0 (by omega) k 0 0 (Nat.two_pow_pos n)) (pow_lt n h2)
    obtain ⟨hlen, hsc⟩ := moved_scale n k m h1 h2 h3 h4 hmlt
    have hok := all3 stepOk_all n k m h1 h2 h3 h4 hmlt
    have hmk := Maker_yes n _ hsc
    have hg := gcd_f k n
    have hmv := moved_f n (spread n k 0) m (by omega) h2 hs hmlt
    unfold stepOk at hok
    generalize spread n k 0 = sp at *
    generalize hM : moved n sp m = M at *
    -- the body behind the tests
    have body : ∀ (q : Nat), sackbutlaw03_EvenSteps.j0 (q + 1) n k a2 sp 0 false = ((even_Maker.f q n M).bind fun bt155 => ((sackbutlaw03_gcd.f q n k).bind fun t157 => (if t157 = 1 then (if bt155.2 = 0 then (if bt155.1 < 1 then (sackbutlaw03_EvenSteps.j1 q n k M bt155.1 true) else (if bt155.1 ≥ n then (sackbutlaw03_EvenSteps.j1 q n k M bt155.1 true) else (if (k : Int) ≥ 2 then (if (n : Int) = 0 then (none) else (if (Int.tmod (wrap64 (k * bt155.1)) n) = 1 then (sackbutlaw03_EvenSteps.j1 q n k M bt155.1 false) else (sackbutlaw03_EvenSteps.j1 q n k M bt155.1 ((Int.tmod (wrap64 (k * bt155.1)) n) != (wrap64 (n - 1)))))) else (sackbutlaw03_EvenSteps.j1 q n k M bt155.1 false)))) else (sackbutlaw03_EvenSteps.j1 q n k M bt155.1 true)) else (if bt155.2 = 0 then ((sackbutlaw03_awake.f q).bind fun t158 => (some t158)) else (if bt155.2 = 4 then ((sackbutlaw03_awake.f q).bind fun t159 => (some t159)) else (some false)))))) := by
      intro q
      simp only [sackbutlaw03_EvenSteps.j0, Bool.false_eq_true, if_false]
      rw [u64_nat n (by omega)] at hm ⊢
      rw [if_neg (by omega), hm, hmv]
      rfl
    refine Ev.step body ?_
    cases hmaker : maker n M with
    | none =>
      rw [hmaker] at hok hmk
      have hcop : ¬ Nat.gcd n k = 1 := by
        intro e
        rw [if_pos e] at hok
        simp at hok
      have hmk' : Ev (fun k => even_Maker.f k n M) ((0 : Int), (4 : Int)) := hmk
      refine Ev.bind hmk' (Ev.bind hg ?_)
      refine Ev.congr (fun q => ?_) (Ev.bind (f := fun _ t => some t) awake_f (Ev.now _))
      dsimp only
      have c0 : ¬ ((Nat.gcd n k : Nat) : Int) = 1 := by omega
      have c5 : ¬ (4 : Int) = 0 := by decide
      have c6 : (4 : Int) = 4 := rfl
      rw [if_neg c0, if_neg c5, if_pos c6]
    | some g =>
      rw [hmaker] at hok hmk
      have hmk' : Ev (fun k => even_Maker.f k n M) ((g : Int), (0 : Int)) := hmk
      refine Ev.bind hmk' (Ev.bind hg ?_)
      by_cases hcop : Nat.gcd n k = 1
      · rw [if_pos hcop] at hok
        simp only [Bool.and_eq_true, Bool.or_eq_true, decide_eq_true_eq, beq_iff_eq] at hok
        obtain ⟨⟨g1, g2⟩, g3⟩ := hok
        have hany := makerFrom_some n M (tones n M).length (tones n M) g (n - 1) 1 hmaker
        obtain ⟨x, hx, hxm⟩ := anyMade_some n M g _ _ hany
        rw [hlen] at hxm
        have hfind := find_l0 n k g M (by omega) h2 (by omega) (by omega) n 0 (by omega) ⟨x, by omega, tones_lt n M x hx, hxm⟩
        have hj1 : Ev (fun q => sackbutlaw03_EvenSteps.j1 q n k M g false) true := by
          refine Ev.step (f := fun q => sackbutlaw03_EvenSteps.l0 q n k M g n 0) (fun q => ?_) hfind
          simp only [sackbutlaw03_EvenSteps.j1, Bool.false_eq_true, if_false]
        have hkg : k * g ≤ 16 * 16 := mul_lt (by omega) (by omega)
        have e1 : wrap64 ((k : Int) * (g : Int)) = ((k * g : Nat) : Int) := by rw [← Int.natCast_mul]; exact wnat _ (by omega)
        have e2 : wrap64 ((n : Int) - 1) = ((n - 1 : Nat) : Int) := by rw [w64 (by omega) (by omega)]; omega
        refine Ev.congr (fun q => ?_) hj1
        dsimp only
        have c0 : ((Nat.gcd n k : Nat) : Int) = 1 := by omega
        have c00 : (0 : Int) = 0 := rfl
        have c1 : ¬ (g : Int) < 1 := by omega
        have c2 : ¬ (g : Int) ≥ (n : Int) := by omega
        have c4 : ¬ (n : Int) = 0 := by omega
        rw [if_pos c0, if_pos c00, if_neg c1, if_neg c2]
        by_cases hk2 : 2 ≤ k
        · have c3 : (k : Int) ≥ 2 := by omega
          rw [if_pos c3, if_neg c4, e1, tmod_nat, e2]
          by_cases hone : k * g % n = 1
          · rw [if_pos (by omega)]
          · have hlast : k * g % n = n - 1 := by omega
            rw [if_neg (by omega), hlast]
            simp
        · have c3 : ¬ (k : Int) ≥ 2 := by omega
          rw [if_neg c3]
      · refine Ev.congr (fun q => ?_) (Ev.bind (f := fun _ t => some t) awake_f (Ev.now _))
        dsimp only
        have c0 : ¬ ((Nat.gcd n k : Nat) : Int) = 1 := by omega
        have c00 : (0 : Int) = 0 := rfl
        rw [if_neg c0, if_pos c00]

end Go.Proofs.Ythbcdmbicfmeaaa.Pure
