/- The set of a triad's tones, and the triad with some tones, of the program and of the reference, told by plain whole numbers. -/
import Derived.Test.YtpaeobpmkdekfaaDoorP1
import Derived.Test.YtpaeobpmkdekfaaDoorP3
import Derived.Test.YtpaeobpmkdekfaaDoorP4
import Derived.Test.YtpaeobpmkdekfaaDoorP5
import Derived.Test.YtpaeobpmkdekfaaDoorWalk2
import Derived.Test.YtpaeobpmkdekfaaDoorTri
namespace Go.Proofs.YtpaeobpmkdekfaaDoor.Base
open Go.RowKit Go.Proofs.YtpaeobpmkdekfaaDoor.P Go.Proofs.YtpaeobpmkdekfaaDoor.Kit Go.Proofs.YtpaeobpmkdekfaaDoorW.PrintWords Go.Proofs.YtpaeobpmkdekfaaDoorW.PrintLast Go.Proofs.YtpaeobpmkdekfaaDoor.Tri

/-- A tone so far above a bright triad's first one, or below a dark one's. -/
def toneAt (n t u : Int) : Nat := ((if n ≤ t then t - u else t + u) % n).toNat
/-- The set of a triad's tones. -/
def tonesN (n a b t : Int) : Nat := 2 ^ toneAt n t 0 ||| 2 ^ toneAt n t a ||| 2 ^ toneAt n t b
theorem toneAt_int (n t u : Int) (hn : 0 < n) : ((toneAt n t u : Nat) : Int) = (if n ≤ t then t - u else t + u) % n := by
  unfold toneAt
  exact Int.toNat_of_nonneg (Int.emod_nonneg _ (by omega))
theorem toneAt_lt (n t u : Int) (hn : 0 < n) : ((toneAt n t u : Nat) : Int) < n := by
  rw [toneAt_int n t u hn]
  exact Int.emod_lt_of_pos _ hn
theorem shl_one (x : Nat) (hx : x < 62) : shl .i64 1 (x : Int) = ((2 ^ x : Nat) : Int) := by
  have := shl_nat 1 x (by omega) (by rw [Nat.one_mul]; exact Nat.pow_lt_pow_right (by decide) hx)
  rw [Nat.one_mul] at this
  exact this
theorem pow_lt62 {x : Nat} (hx : x < 62) : 2 ^ x < 2 ^ 62 := Nat.pow_lt_pow_right (by decide) hx
theorem or_lt62 {x y : Nat} (hx : x < 2 ^ 62) (hy : y < 2 ^ 62) : x ||| y < 2 ^ 62 := Nat.or_lt_two_pow hx hy
theorem rTones_f {n a b t : Int} (hk : isKind n a b = true) (ht : isTri n t = true) : sackbutref04_Tones.f n a b t = some ((tonesN n a b t : Nat) : Int) := by
  obtain ⟨h1, h2, h3, h4, h5, _⟩ := of_decide_eq_true hk
  obtain ⟨ht0, ht1⟩ := of_decide_eq_true ht
  have hn0 : 0 < n := by omega
  have t0 := toneAt_lt n t 0 hn0
  have ta := toneAt_lt n t a hn0
  have tb := toneAt_lt n t b hn0
  have e0 : Int.tmod t n = ((toneAt n t 0 : Nat) : Int) := by
    rw [toneAt_int n t 0 hn0, Int.tmod_eq_emod_of_nonneg ht0]
    split <;> simp
  have l0 := Int.emod_nonneg t (show n ≠ 0 by omega)
  have l1 := Int.emod_lt_of_pos t hn0
  have key : ∀ u v : Int, -16 ≤ u → u ≤ 16 → -16 ≤ v → v ≤ 16 → (t % n + u) % n = ((toneAt n t a : Nat) : Int) → (t % n + v) % n = ((toneAt n t b : Nat) : Int) →
      ((sackbutref04_mod.f (wrap64 (Int.tmod t n + u)) n).bind fun x => if 0 ≤ x then ((sackbutref04_mod.f (wrap64 (Int.tmod t n + v)) n).bind fun y => if 0 ≤ y then some (Go.bits .or .i64 (Go.bits .or .i64 (shl .i64 1 (Int.tmod t n)) (shl .i64 1 x)) (shl .i64 1 y)) else none) else none) = some ((tonesN n a b t : Nat) : Int) := by
    intro u v hu0 hu1 hv0 hv1 hu hv
    have e1 : Int.tmod t n = t % n := Int.tmod_eq_emod_of_nonneg ht0
    rw [w64 (x := Int.tmod t n + u) (by omega) (by omega), w64 (x := Int.tmod t n + v) (by omega) (by omega), mod_f _ n hn0 h2, mod_f _ n hn0 h2]
    simp only [Option.bind_some]
    rw [e1, hu, hv, ← e1, e0, if_pos (by omega), if_pos (by omega), shl_one _ (by omega), shl_one _ (by omega), shl_one _ (by omega), or_nat _ _ (pow_lt62 (by omega)) (pow_lt62 (by omega)), or_nat _ _ (or_lt62 (pow_lt62 (by omega)) (pow_lt62 (by omega))) (pow_lt62 (by omega))]
    rfl
  unfold sackbutref04_Tones.f
  rw [if_neg (show ¬ n = 0 by omega), if_neg (show ¬ n = 0 by omega), w64 (x := -a) (by omega) (by omega), w64 (x := -b) (by omega) (by omega), w64 (x := a) (by omega) (by omega), w64 (x := b) (by omega) (by omega), if_pos (show (0 : Int) ≤ Int.tmod t n by omega), if_pos (show (0 : Int) ≤ Int.tmod t n by omega)]
  have fix : ∀ x : Int, (t % n + x) % n = (t + x) % n := fun x => Int.emod_add_emod t n x
  split
  · rename_i hge
    have hge' : n ≤ t := hge
    refine key (-a) (-b) (by omega) (by omega) (by omega) (by omega) ?_ ?_
    · rw [toneAt_int n t a hn0, if_pos hge', fix]; rfl
    · rw [toneAt_int n t b hn0, if_pos hge', fix]; rfl
  · rename_i hge
    have hge' : ¬ n ≤ t := hge
    refine key a b (by omega) (by omega) (by omega) (by omega) ?_ ?_
    · rw [toneAt_int n t a hn0, if_neg hge', fix]
    · rw [toneAt_int n t b hn0, if_neg hge', fix]
theorem tones_f {n a b t : Int} (hk : isKind n a b = true) (ht : isTri n t = true) : Ev (fun k => triads_Kind_tones.f k n a b t) ((tonesN n a b t : Nat) : Int) := by
  obtain ⟨h1, h2, h3, h4, h5, _⟩ := of_decide_eq_true hk
  obtain ⟨ht0, ht1⟩ := of_decide_eq_true ht
  have hn0 : 0 < n := by omega
  have t0 := toneAt_lt n t 0 hn0
  have ta := toneAt_lt n t a hn0
  have tb := toneAt_lt n t b hn0
  have l0 := Int.emod_nonneg t (show n ≠ 0 by omega)
  have l1 := Int.emod_lt_of_pos t hn0
  have e1 : Int.tmod t n = t % n := Int.tmod_eq_emod_of_nonneg ht0
  -- one round
  have round : ∀ (i : Nat) (u : Int) (acc : Nat) (k : Nat) (hi : i < 3) (hu : rd ([0, a, b] : List Int) (i : Int) = u) (hu0 : 0 ≤ u) (hu1 : u < n) (hacc : acc < 2 ^ 62),
      triads_Kind_tones.l0 (k + 1) (acc : Int) [0, a, b] 3 (i : Int) n a b (t % n) (decide (t ≥ n)) = triads_Kind_tones.l0 k ((acc ||| 2 ^ toneAt n t u : Nat) : Int) [0, a, b] 3 ((i + 1 : Nat) : Int) n a b (t % n) (decide (t ≥ n)) := by
    intro i u acc k hi hu hu0 hu1 hacc
    have tu := toneAt_lt n t u hn0
    simp only [triads_Kind_tones.l0]
    rw [if_pos (by omega), if_pos (by omega), if_pos (by show (i : Int) < 3; omega), hu, if_neg (show ¬ n = 0 by omega), if_neg (show ¬ n = 0 by omega), w64 (x := -u) (by omega) (by omega), w64 (x := t % n + -u) (by omega) (by omega), w64 (x := t % n + u) (by omega) (by omega), w64 (x := t % n + -u + n) (by omega) (by omega), w64 (x := t % n + u + n) (by omega) (by omega), w64 (x := (i : Int) + 1) (by omega) (by omega)]
    have s1 : Int.tmod (t % n + -u + n) n = (t - u) % n := by
      rw [Int.tmod_eq_emod_of_nonneg (by omega), Int.add_emod_right, Int.emod_add_emod]
      rfl
    have s2 : Int.tmod (t % n + u + n) n = (t + u) % n := by
      rw [Int.tmod_eq_emod_of_nonneg (by omega), Int.add_emod_right, Int.emod_add_emod]
    rw [s1, s2]
    by_cases hd : n ≤ t
    · have e : ((toneAt n t u : Nat) : Int) = (t - u) % n := by rw [toneAt_int n t u hn0, if_pos hd]
      rw [show decide (t ≥ n) = true from decide_eq_true hd, if_pos rfl, ← e, if_pos (by omega), shl_one _ (by omega), or_nat _ _ hacc (pow_lt62 (by omega))]
      rfl
    · have e : ((toneAt n t u : Nat) : Int) = (t + u) % n := by rw [toneAt_int n t u hn0, if_neg hd]
      rw [show decide (t ≥ n) = false from decide_eq_false hd, if_neg (by decide), ← e, if_pos (by omega), shl_one _ (by omega), or_nat _ _ hacc (pow_lt62 (by omega))]
      rfl
  have hf : ∀ k, triads_Kind_tones.f (k + 4) n a b t = some ((tonesN n a b t : Nat) : Int) := by
    intro k
    unfold triads_Kind_tones.f triads_Kind_triad.f
    rw [if_neg (show ¬ n = 0 by omega)]
    simp only [Option.bind_some]
    rw [e1]
    have r0 := round 0 0 0 (k + 3) (by omega) rfl (by omega) (by omega) (by decide)
    have r1 := round 1 a (0 ||| 2 ^ toneAt n t 0) (k + 2) (by omega) rfl (by omega) (by omega) (or_lt62 (by decide) (pow_lt62 (by omega)))
    have r2 := round 2 b (0 ||| 2 ^ toneAt n t 0 ||| 2 ^ toneAt n t a) (k + 1) (by omega) rfl (by omega) (by omega) (or_lt62 (or_lt62 (by decide) (pow_lt62 (by omega))) (pow_lt62 (by omega)))
    refine r0.trans (r1.trans (r2.trans ?_))
    simp only [triads_Kind_tones.l0]
    rw [if_neg (by decide)]
    unfold tonesN
    rw [Nat.zero_or]
  exact ⟨4, fun k hk => by
    obtain ⟨m, rfl⟩ : ∃ m, k = m + 4 := ⟨k - 4, by omega⟩
    exact hf m⟩
/-- The first triad with some tones, from one on. -/
def findT (n a b x : Int) : Nat → Int → Int × Int
  | 0, _ => (0, 4)
  | d + 1, t => if ((tonesN n a b t : Nat) : Int) = x then (t, 0) else findT n a b x d (t + 1)
theorem tri_of {n t : Int} (h0 : 0 ≤ t) (h1 : t < 2 * n) : isTri n t = true := decide_eq_true ⟨h0, h1⟩
theorem find_l0 {n a b : Int} (hk : isKind n a b = true) (x : Int) : ∀ (d : Nat) (t : Int), 0 ≤ t → t + d = 2 * n → Ev (fun k => triads_Find.l0 k x (2 * n) t n a b) (findT n a b x d t)
  | 0, t, _, h => by
    refine Ev.done fun k => ?_
    simp only [triads_Find.l0]
    rw [if_neg (by omega)]
    rfl
  | d + 1, t, h0, h => by
    obtain ⟨h1, h2, h3, h4, h5, _⟩ := of_decide_eq_true hk
    refine Ev.step (f := fun k => (triads_Kind_tones.f k n a b t).bind fun v => if v = x then some (t, 0) else triads_Find.l0 k x (2 * n) (wrap64 (t + 1)) n a b) (fun k => ?_) ?_
    · simp only [triads_Find.l0]
      rw [if_pos (by omega)]
    · refine Ev.bind (f := fun k v => if v = x then some (t, 0) else triads_Find.l0 k x (2 * n) (wrap64 (t + 1)) n a b) (tones_f hk (tri_of h0 (by omega))) ?_
      rw [w64 (x := t + 1) (by omega) (by omega)]
      unfold findT
      by_cases e : ((tonesN n a b t : Nat) : Int) = x
      · simp only [if_pos e]
        exact Ev.now _
      · simp only [if_neg e]
        exact find_l0 hk x d (t + 1) (by omega) (by omega)
theorem rFind_l0 {n a b : Int} (hk : isKind n a b = true) (x : Int) : ∀ (d : Nat) (t : Int), 0 ≤ t → t + d = 2 * n → Ev (fun k => sackbutref04_Find.l0 k x (2 * n) t n a b) (findT n a b x d t)
  | 0, t, _, h => by
    refine Ev.done fun k => ?_
    simp only [sackbutref04_Find.l0]
    rw [if_neg (by omega)]
    rfl
  | d + 1, t, h0, h => by
    obtain ⟨h1, h2, h3, h4, h5, _⟩ := of_decide_eq_true hk
    refine Ev.step (f := fun k => if ((tonesN n a b t : Nat) : Int) = x then some (t, 0) else sackbutref04_Find.l0 k x (2 * n) (wrap64 (t + 1)) n a b) (fun k => ?_) ?_
    · simp only [sackbutref04_Find.l0]
      rw [if_pos (by omega), rTones_f hk (tri_of h0 (by omega))]
      rfl
    · rw [w64 (x := t + 1) (by omega) (by omega)]
      unfold findT
      by_cases e : ((tonesN n a b t : Nat) : Int) = x
      · simp only [if_pos e]
        exact Ev.now _
      · simp only [if_neg e]
        exact rFind_l0 hk x d (t + 1) (by omega) (by omega)
theorem rFind_f {n a b : Int} (hk : isKind n a b = true) (x : Int) : Ev (fun k => sackbutref04_Find.f k n a b x) (findT n a b x (2 * n).toNat 0) := by
  obtain ⟨h1, h2, h3, h4, h5, _⟩ := of_decide_eq_true hk
  unfold sackbutref04_Find.f
  rw [w64 (x := 2 * n) (by omega) (by omega)]
  exact rFind_l0 hk x _ 0 (by omega) (by omega)
/-- What Find answers. -/
def findV (n a b x : Int) : Int × Int := if isKind n a b = true ∧ 0 ≤ x ∧ x < ((2 ^ n.toNat : Nat) : Int) then findT n a b x (2 * n).toNat 0 else (0, 2)
theorem shl_n {n : Int} (h0 : 0 ≤ n) (h1 : n ≤ 16) : shl .i64 1 n = ((2 ^ n.toNat : Nat) : Int) := by
  obtain ⟨m, rfl⟩ := Int.eq_ofNat_of_zero_le h0
  rw [shl_one m (by omega)]
  rfl
theorem find_f {n a b : Int} (x : Int) (hn : Int64 n) (ha : Int64 a) (hb : Int64 b) : Ev (fun k => triads_Find.f k n a b x) (findV n a b x) := by
  unfold triads_Find.f findV
  rw [valid_f n a b hn ha hb]
  simp only [Option.bind_some]
  have bad : Ev (fun k => triads_Find.j0 k x true n a b) ((0, 2) : Int × Int) := Ev.done fun k => by simp [triads_Find.j0]
  cases hk : isKind n a b with
  | false =>
    simp only [Bool.false_eq_true, if_false, false_and]
    exact bad
  | true =>
    obtain ⟨h1, h2, h3, h4, h5, _⟩ := of_decide_eq_true hk
    simp only [if_true, true_and]
    by_cases hx : x < 0
    · simp only [if_pos hx]
      rw [if_neg (by omega)]
      exact bad
    · simp only [if_neg hx]
      simp only [if_pos (show (0 : Int) ≤ n by omega), shl_n (show (0 : Int) ≤ n by omega) h2]
      by_cases hx2 : x < ((2 ^ n.toNat : Nat) : Int)
      · rw [if_pos ⟨by omega, hx2⟩]
        simp only [decide_eq_false (show ¬ x ≥ ((2 ^ n.toNat : Nat) : Int) by omega)]
        refine Ev.step (f := fun k => triads_Find.l0 k x (2 * n) 0 n a b) (fun k => ?_) (find_l0 hk x _ 0 (by omega) (by omega))
        simp only [triads_Find.j0, Bool.false_eq_true, if_false]
        rw [w64 (x := 2 * n) (by omega) (by omega)]
      · rw [if_neg (fun h => hx2 h.2)]
        simp only [decide_eq_true (show x ≥ ((2 ^ n.toNat : Nat) : Int) by omega)]
        exact bad
theorem Tones_f {n a b : Int} (t : Int) (hn : Int64 n) (ha : Int64 a) (hb : Int64 b) : Ev (fun k => triads_Tones.f k n a b t) (if (isKind n a b && isTri n t) = true then (((tonesN n a b t : Nat) : Int), (0 : Int)) else (0, 2)) := by
  unfold triads_Tones.f
  rw [isTriad_f n a b t hn ha hb]
  simp only [Option.bind_some]
  cases hk : (isKind n a b && isTri n t) with
  | false => exact Ev.now _
  | true =>
    obtain ⟨hk1, hk2⟩ := Bool.and_eq_true_iff.1 hk
    simp only [if_true]
    exact Ev.bind (tones_f hk1 hk2) (Ev.now _)
end Go.Proofs.YtpaeobpmkdekfaaDoor.Base
