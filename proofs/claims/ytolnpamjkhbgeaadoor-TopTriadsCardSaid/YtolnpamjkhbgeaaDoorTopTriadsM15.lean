/- Texts that the proof of TopTriads needs, put together in build order by this session's program (wip/tools/claimtrim.py). -/
import Derived.Test.YtolnpamjkhbgeaaDoorTopTriadsM14
section
namespace Go.Proofs.YtolnpamjkhbgeaaDoor.Kit
section
open Go.RowKit Go.Proofs.YtolnpamjkhbgeaaDoorW.PrintWords Go.Proofs.YtolnpamjkhbgeaaDoorW.PrintLast
theorem w64 {x : Int} (h0 : -9223372036854775808 ≤ x) (h1 : x < 9223372036854775808) : wrap64 x = x := by
  unfold wrap64
  omega
theorem wraps_i64 (j : Nat) (hj : j ≤ 63) (n : Int) (h0 : 0 ≤ n) (h1 : n < 2 ^ j) : IntKind.i64.wrap n = n := by
  have h2 : (2 : Int) ^ j ≤ 2 ^ 63 := by
    have : (2 : Nat) ^ j ≤ 2 ^ 63 := Nat.pow_le_pow_right (by decide) hj
    exact_mod_cast this
  have h3 : (2 : Int) ^ 63 = 9223372036854775808 := by decide
  rw [IntKind.wrap_i64]
  omega
theorem and_nat (a b : Nat) (ha : a < 2 ^ 62) (hb : b < 2 ^ 62) : Go.bits .and .i64 (a : Int) (b : Int) = ((a &&& b : Nat) : Int) :=
  (bits_nat .i64 62 (by decide) (wraps_i64 62 (by decide)) a b ha hb).1
theorem or_nat (a b : Nat) (ha : a < 2 ^ 62) (hb : b < 2 ^ 62) : Go.bits .or .i64 (a : Int) (b : Int) = ((a ||| b : Nat) : Int) :=
  (bits_nat .i64 62 (by decide) (wraps_i64 62 (by decide)) a b ha hb).2
theorem shl_nat (a x : Nat) (hx : x ≤ 62) (h : a * 2 ^ x < 2 ^ 62) : shl .i64 (a : Int) (x : Int) = ((a * 2 ^ x : Nat) : Int) := by
  unfold shl
  rw [Int.toNat_natCast, Nat.min_eq_left (by show x ≤ 64; omega)]
  have e : (a : Int) * 2 ^ x = ((a * 2 ^ x : Nat) : Int) := by simp
  rw [e]
  exact wraps_i64 62 (by decide) _ (Int.natCast_nonneg _) (by exact_mod_cast h)
theorem shr_nat (a x : Nat) (hx : x ≤ 62) : shr .i64 (a : Int) (x : Int) = ((a / 2 ^ x : Nat) : Int) := by
  unfold shr
  rw [Int.toNat_natCast, Nat.min_eq_left (by show x ≤ 64; omega)]
  simp
end
end Go.Proofs.YtolnpamjkhbgeaaDoor.Kit
namespace Go.Proofs.YtolnpamjkhbgeaaDoor.Base
section
open Go.RowKit Go.Proofs.YtolnpamjkhbgeaaDoor.P Go.Proofs.YtolnpamjkhbgeaaDoorW.PrintWords Go.Proofs.YtolnpamjkhbgeaaDoorW.PrintLast Go.Proofs.YtolnpamjkhbgeaaDoor.Kit
theorem tm (x n : Int) (hn : 0 < n) : Int.tmod (Int.tmod x n + n) n = x % n := by
  have e := Int.emod_nonneg x (show n ≠ 0 by omega)
  have l := Int.emod_lt_of_pos x hn
  have hna : (n.natAbs : Int) = n := by omega
  have q : Int.tmod x n = x % n ∨ Int.tmod x n = x % n - n := by
    rw [Int.tmod_eq_emod]
    split
    · left; omega
    · right; rw [hna]
  rcases q with q | q
  · rw [q, Int.tmod_eq_emod_of_nonneg (by omega), Int.add_emod_right, Int.emod_emod_of_dvd _ (Int.dvd_refl n)]
  · rw [q, show x % n - n + n = x % n by omega, Int.tmod_eq_emod_of_nonneg e, Int.emod_emod_of_dvd _ (Int.dvd_refl n)]
/-- A Kind, as the document says. -/
def isKind (n a b : Int) : Bool := decide (5 ≤ n ∧ n ≤ 16 ∧ 0 < a ∧ a < b ∧ b < n ∧ a ≠ b - a ∧ a ≠ n - b ∧ b - a ≠ n - b)
theorem tmod_small (x n : Int) (hn0 : 0 < n) : -n < Int.tmod x n ∧ Int.tmod x n < n := by
  have e := Int.emod_nonneg x (show n ≠ 0 by omega)
  have l := Int.emod_lt_of_pos x hn0
  have hna : (n.natAbs : Int) = n := by omega
  rw [Int.tmod_eq_emod]
  split
  · omega
  · rw [hna]
    have : x % n ≠ 0 := by
      intro h0
      have : n ∣ x := Int.dvd_of_emod_eq_zero h0
      omega
    omega
theorem number_f (n a b x : Int) (dark : Bool) (hn0 : 0 < n) (hn : n ≤ 16) : triads_Kind_number.f n a b x dark = some (if dark = true then x % n + n else x % n) := by
  have ts := tmod_small x n hn0
  have e := Int.emod_nonneg x (show n ≠ 0 by omega)
  have l := Int.emod_lt_of_pos x hn0
  unfold triads_Kind_number.f
  rw [if_neg (by omega), w64 (x := Int.tmod x n + n) (by omega) (by omega), tm x n hn0, w64 (x := x % n + n) (by omega) (by omega)]
  split <;> rfl
end
end Go.Proofs.YtolnpamjkhbgeaaDoor.Base
namespace Go.Proofs.YtolnpamjkhbgeaaDoor.Base
section
open Go.RowKit Go.Proofs.YtolnpamjkhbgeaaDoor.P Go.Proofs.YtolnpamjkhbgeaaDoorW.PrintWords Go.Proofs.YtolnpamjkhbgeaaDoorW.PrintLast Go.Proofs.YtolnpamjkhbgeaaDoor.Kit
theorem Ev.done {α : Type} {g : Nat → Option α} {r : α} (h : ∀ k, g (k + 1) = some r) : Ev g r := Ev.step (f := fun _ => some r) h (Ev.now r)
/-- Go's ints. -/
def Int64 (x : Int) : Prop := -9223372036854775808 ≤ x ∧ x < 9223372036854775808
theorem valid_f (n a b : Int) (hn : Int64 n) (ha : Int64 a) (hb : Int64 b) : triads_Kind_valid.f n a b = some (isKind n a b) := by
  unfold triads_Kind_valid.f isKind
  unfold Int64 at *
  by_cases c1 : n < 5
  · rw [if_pos c1]; congr 1; symm; exact decide_eq_false (by omega)
  · rw [if_neg c1]
    by_cases c2 : n > 16
    · rw [if_pos c2]; congr 1; symm; exact decide_eq_false (by omega)
    · rw [if_neg c2]
      by_cases c3 : a ≤ 0
      · rw [if_pos c3]; congr 1; symm; exact decide_eq_false (by omega)
      · rw [if_neg c3]
        by_cases c4 : b ≤ a
        · rw [if_pos c4]; congr 1; symm; exact decide_eq_false (by omega)
        · rw [if_neg c4]
          by_cases c5 : n ≤ b
          · rw [if_pos c5]; congr 1; symm; exact decide_eq_false (by omega)
          · rw [if_neg c5, w64 (x := b - a) (by omega) (by omega), w64 (x := n - b) (by omega) (by omega)]
            by_cases c6 : a = b - a
            · rw [if_pos c6]; congr 1; symm; exact decide_eq_false (by omega)
            · rw [if_neg c6]
              by_cases c7 : b - a = n - b
              · rw [if_pos c7]; congr 1; symm; exact decide_eq_false (by omega)
              · rw [if_neg c7]
                congr 1
                rw [Bool.eq_iff_iff, bne_iff_ne, decide_eq_true_eq]
                omega
theorem rValid_f (n a b : Int) (hn : Int64 n) (ha : Int64 a) (hb : Int64 b) : sackbutref04_Valid.f n a b = some (isKind n a b) := by
  unfold sackbutref04_Valid.f isKind
  unfold Int64 at *
  by_cases c1 : n ≥ 5
  · rw [if_pos c1]
    by_cases c2 : n ≤ 16
    · rw [if_pos c2]
      by_cases c3 : a > 0
      · rw [if_pos c3]
        by_cases c4 : a < b
        · rw [if_pos c4]
          by_cases c5 : b < n
          · rw [if_pos c5, w64 (x := b - a) (by omega) (by omega), w64 (x := n - b) (by omega) (by omega)]
            by_cases c6 : a = b - a
            · rw [if_pos c6]; congr 1; symm; exact decide_eq_false (by omega)
            · rw [if_neg c6]
              by_cases c7 : a = n - b
              · rw [if_pos c7]; congr 1; symm; exact decide_eq_false (by omega)
              · rw [if_neg c7]
                congr 1
                rw [Bool.eq_iff_iff, bne_iff_ne, decide_eq_true_eq]
                omega
          · rw [if_neg c5]; congr 1; symm; exact decide_eq_false (by omega)
        · rw [if_neg c4]; congr 1; symm; exact decide_eq_false (by omega)
      · rw [if_neg c3]; congr 1; symm; exact decide_eq_false (by omega)
    · rw [if_neg c2]; congr 1; symm; exact decide_eq_false (by omega)
  · rw [if_neg c1]; congr 1; symm; exact decide_eq_false (by omega)
/-- A triad of a Kind. -/
def isTri (n t : Int) : Bool := decide (0 ≤ t ∧ t < 2 * n)
theorem notTriad_f (n t : Int) (h1 : 5 ≤ n) (h2 : n ≤ 16) : notTriad n t = !isTri n t := by
  unfold notTriad isTri
  rw [w64 (x := 2 * n) (by omega) (by omega), Bool.eq_iff_iff]
  simp
theorem isTriad_f (n a b t : Int) (hn : Int64 n) (ha : Int64 a) (hb : Int64 b) : triads_Kind_isTriad.f n a b [t] = some (isKind n a b && isTri n t) := by
  unfold triads_Kind_isTriad.f
  rw [valid_f n a b hn ha hb]
  simp only [Option.bind_some, List.any_cons, List.any_nil, Bool.or_false]
  cases h : isKind n a b with
  | false => simp
  | true =>
    obtain ⟨h1, h2, _⟩ := of_decide_eq_true h
    rw [notTriad_f n t h1 h2]
    simp
end
end Go.Proofs.YtolnpamjkhbgeaaDoor.Base
namespace Go.Proofs.YtolnpamjkhbgeaaDoor.Tri
section
open Go.RowKit Go.Proofs.YtolnpamjkhbgeaaDoor.P Go.Proofs.YtolnpamjkhbgeaaDoorW.PrintWords Go.Proofs.YtolnpamjkhbgeaaDoorW.PrintLast Go.Proofs.YtolnpamjkhbgeaaDoor.Kit Go.Proofs.YtolnpamjkhbgeaaDoor.Base
/-- The triad of a sort, whose first tone is a number. -/
def pos (n : Int) (d : Bool) (r : Int) : Int := if d = true then n + r % n else r % n
theorem pos_range {n : Int} (hn : 0 < n) (d : Bool) (r : Int) : 0 ≤ pos n d r ∧ pos n d r < 2 * n := by
  have e := Int.emod_nonneg r (show n ≠ 0 by omega)
  have l := Int.emod_lt_of_pos r hn
  unfold pos
  split <;> omega
theorem pos_dark {n : Int} (hn : 0 < n) (d : Bool) (r : Int) : decide (n ≤ pos n d r) = d := by
  have e := Int.emod_nonneg r (show n ≠ 0 by omega)
  have l := Int.emod_lt_of_pos r hn
  unfold pos
  cases d <;> simp <;> omega
theorem pos_mod {n : Int} (d : Bool) (r : Int) : pos n d r % n = r % n := by
  unfold pos
  cases d
  · simp
  · simp
theorem pos_congr {n : Int} (d : Bool) {r s : Int} (h : r % n = s % n) : pos n d r = pos n d s := by
  unfold pos
  rw [h]
theorem pos_of {n t : Int} (h0 : 0 ≤ t) (h1 : t < 2 * n) : pos n (decide (n ≤ t)) t = t := by
  unfold pos
  by_cases h : n ≤ t
  · rw [decide_eq_true h, if_pos rfl]
    have : t % n = t - n := by rw [← Int.sub_emod_right, Int.emod_eq_of_lt (by omega) (by omega)]
    omega
  · rw [decide_eq_false h, if_neg (by decide)]
    exact Int.emod_eq_of_lt h0 (by omega)
theorem pos_inj {n : Int} (hn : 0 < n) {d e : Bool} {r s : Int} : pos n d r = pos n e s ↔ d = e ∧ r % n = s % n := by
  constructor
  · intro h
    refine ⟨?_, ?_⟩
    · rw [← pos_dark hn d r, ← pos_dark hn e s, h]
    · rw [← pos_mod d r, ← pos_mod e s, h]
  · rintro ⟨rfl, h⟩
    exact pos_congr d h
theorem emod_add_congr {n r s : Int} (h : r % n = s % n) (x : Int) : (r + x) % n = (s + x) % n := by
  rw [Int.add_emod, h, ← Int.add_emod]
theorem emod_sub_congr {n r s : Int} (h : r % n = s % n) (x : Int) : (r - x) % n = (s - x) % n := by
  rw [Int.sub_emod, h, ← Int.sub_emod]
theorem emod_rsub_congr {n r s : Int} (h : r % n = s % n) (x : Int) : (x - r) % n = (x - s) % n := by
  rw [Int.sub_emod, h, ← Int.sub_emod]
/-- A shift. -/
def shiftI (n t k : Int) (turned : Bool) : Int := pos n (decide (n ≤ t) != turned) (if turned = true then k - t else t + k)
theorem shift_pos {n : Int} (hn : 0 < n) (d : Bool) (r k : Int) (turned : Bool) : shiftI n (pos n d r) k turned = pos n (d != turned) (if turned = true then k - r else r + k) := by
  unfold shiftI
  rw [pos_dark hn]
  refine pos_congr _ ?_
  cases turned with
  | true => exact emod_rsub_congr (pos_mod d r) k
  | false => exact emod_add_congr (pos_mod d r) k
theorem shift_range {n : Int} (hn : 0 < n) (t k : Int) (turned : Bool) : 0 ≤ shiftI n t k turned ∧ shiftI n t k turned < 2 * n := pos_range hn _ _
theorem shift_mod {n : Int} (t k : Int) (turned : Bool) : shiftI n t (k % n) turned = shiftI n t k turned := by
  unfold shiftI
  refine pos_congr _ ?_
  cases turned with
  | true => simp
  | false => simp
end
end Go.Proofs.YtolnpamjkhbgeaaDoor.Tri
namespace Go.Proofs.YtolnpamjkhbgeaaDoor.Base
section
open Go.RowKit Go.Proofs.YtolnpamjkhbgeaaDoor.P Go.Proofs.YtolnpamjkhbgeaaDoorW.PrintWords Go.Proofs.YtolnpamjkhbgeaaDoorW.PrintLast Go.Proofs.YtolnpamjkhbgeaaDoor.Kit Go.Proofs.YtolnpamjkhbgeaaDoor.Tri
/-- A tone so far above a bright triad's first one, or below a dark one's. -/
def toneAt (n t u : Int) : Nat := ((if n ≤ t then t - u else t + u) % n).toNat
/-- The set of a triad's tones. -/
def tonesN (n a b t : Int) : Nat := 2 ^ toneAt n t 0 ||| 2 ^ toneAt n t a ||| 2 ^ toneAt n t b
theorem toneAt_int (n t u : Int) (hn : 0 < n) : ((toneAt n t u : Nat) : Int) = (if n ≤ t then t - u else t + u) % n := by
  unfold toneAt
  exact Int.toNat_of_nonneg (Int.emod_nonneg _ (by omega))
theorem toneAt_lt (n t u : Int) (hn : 0 < n) : ((toneAt n t u : Nat) : Int) < n := by
  rw [toneAt_int n t u hn]
  exact Int.emod_lt_of_pos _ hn
theorem shl_one (x : Nat) (hx : x < 62) : shl .i64 1 (x : Int) = ((2 ^ x : Nat) : Int) := by
  have := shl_nat 1 x (by omega) (by rw [Nat.one_mul]; exact Nat.pow_lt_pow_right (by decide) hx)
  rw [Nat.one_mul] at this
  exact this
theorem pow_lt62 {x : Nat} (hx : x < 62) : 2 ^ x < 2 ^ 62 := Nat.pow_lt_pow_right (by decide) hx
theorem or_lt62 {x y : Nat} (hx : x < 2 ^ 62) (hy : y < 2 ^ 62) : x ||| y < 2 ^ 62 := Nat.or_lt_two_pow hx hy
theorem tones_f {n a b t : Int} (hk : isKind n a b = true) (ht : isTri n t = true) : Ev (fun k => triads_Kind_tones.f k n a b t) ((tonesN n a b t : Nat) : Int) := by
  obtain ⟨h1, h2, h3, h4, h5, _⟩ := of_decide_eq_true hk
  obtain ⟨ht0, ht1⟩ := of_decide_eq_true ht
  have hn0 : 0 < n := by omega
  have t0 := toneAt_lt n t 0 hn0
  have ta := toneAt_lt n t a hn0
  have tb := toneAt_lt n t b hn0
  have l0 := Int.emod_nonneg t (show n ≠ 0 by omega)
  have l1 := Int.emod_lt_of_pos t hn0
  have e1 : Int.tmod t n = t % n := Int.tmod_eq_emod_of_nonneg ht0
  -- one round
  have round : ∀ (i : Nat) (u : Int) (acc : Nat) (k : Nat) (hi : i < 3) (hu : rd ([0, a, b] : List Int) (i : Int) = u) (hu0 : 0 ≤ u) (hu1 : u < n) (hacc : acc < 2 ^ 62),
      triads_Kind_tones.l0 (k + 1) (acc : Int) [0, a, b] 3 (i : Int) n a b (t % n) (decide (t ≥ n)) = triads_Kind_tones.l0 k ((acc ||| 2 ^ toneAt n t u : Nat) : Int) [0, a, b] 3 ((i + 1 : Nat) : Int) n a b (t % n) (decide (t ≥ n)) := by
    intro i u acc k hi hu hu0 hu1 hacc
    have tu := toneAt_lt n t u hn0
    simp only [triads_Kind_tones.l0]
    rw [if_pos (by omega), if_pos (by omega), if_pos (by show (i : Int) < 3; omega), hu, if_neg (show ¬ n = 0 by omega), if_neg (show ¬ n = 0 by omega), w64 (x := -u) (by omega) (by omega), w64 (x := t % n + -u) (by omega) (by omega), w64 (x := t % n + u) (by omega) (by omega), w64 (x := t % n + -u + n) (by omega) (by omega), w64 (x := t % n + u + n) (by omega) (by omega), w64 (x := (i : Int) + 1) (by omega) (by omega)]
    have s1 : Int.tmod (t % n + -u + n) n = (t - u) % n := by
      rw [Int.tmod_eq_emod_of_nonneg (by omega), Int.add_emod_right, Int.emod_add_emod]
      rfl
    have s2 : Int.tmod (t % n + u + n) n = (t + u) % n := by
      rw [Int.tmod_eq_emod_of_nonneg (by omega), Int.add_emod_right, Int.emod_add_emod]
    rw [s1, s2]
    by_cases hd : n ≤ t
    · have e : ((toneAt n t u : Nat) : Int) = (t - u) % n := by rw [toneAt_int n t u hn0, if_pos hd]
      rw [show decide (t ≥ n) = true from decide_eq_true hd, if_pos rfl, ← e, if_pos (by omega), shl_one _ (by omega), or_nat _ _ hacc (pow_lt62 (by omega))]
      rfl
    · have e : ((toneAt n t u : Nat) : Int) = (t + u) % n := by rw [toneAt_int n t u hn0, if_neg hd]
      rw [show decide (t ≥ n) = false from decide_eq_false hd, if_neg (by decide), ← e, if_pos (by omega), shl_one _ (by omega), or_nat _ _ hacc (pow_lt62 (by omega))]
      rfl
  have hf : ∀ k, triads_Kind_tones.f (k + 4) n a b t = some ((tonesN n a b t : Nat) : Int) := by
    intro k
    unfold triads_Kind_tones.f triads_Kind_triad.f
    rw [if_neg (show ¬ n = 0 by omega)]
    simp only [Option.bind_some]
    rw [e1]
    have r0 := round 0 0 0 (k + 3) (by omega) rfl (by omega) (by omega) (by decide)
    have r1 := round 1 a (0 ||| 2 ^ toneAt n t 0) (k + 2) (by omega) rfl (by omega) (by omega) (or_lt62 (by decide) (pow_lt62 (by omega)))
    have r2 := round 2 b (0 ||| 2 ^ toneAt n t 0 ||| 2 ^ toneAt n t a) (k + 1) (by omega) rfl (by omega) (by omega) (or_lt62 (or_lt62 (by decide) (pow_lt62 (by omega))) (pow_lt62 (by omega)))
    refine r0.trans (r1.trans (r2.trans ?_))
    simp only [triads_Kind_tones.l0]
    rw [if_neg (by decide)]
    unfold tonesN
    rw [Nat.zero_or]
  exact ⟨4, fun k hk => by
    obtain ⟨m, rfl⟩ : ∃ m, k = m + 4 := ⟨k - 4, by omega⟩
    exact hf m⟩
/-- The first triad with some tones, from one on. -/
def findT (n a b x : Int) : Nat → Int → Int × Int
  | 0, _ => (0, 4)
  | d + 1, t => if ((tonesN n a b t : Nat) : Int) = x then (t, 0) else findT n a b x d (t + 1)
theorem tri_of {n t : Int} (h0 : 0 ≤ t) (h1 : t < 2 * n) : isTri n t = true := decide_eq_true ⟨h0, h1⟩
theorem find_l0 {n a b : Int} (hk : isKind n a b = true) (x : Int) : ∀ (d : Nat) (t : Int), 0 ≤ t → t + d = 2 * n → Ev (fun k => triads_Find.l0 k x (2 * n) t n a b) (findT n a b x d t)
  | 0, t, _, h => by
    refine Ev.done fun k => ?_
    simp only [triads_Find.l0]
    rw [if_neg (by omega)]
    rfl
  | d + 1, t, h0, h => by
    obtain ⟨h1, h2, h3, h4, h5, _⟩ := of_decide_eq_true hk
    refine Ev.step (f := fun k => (triads_Kind_tones.f k n a b t).bind fun v => if v = x then some (t, 0) else triads_Find.l0 k x (2 * n) (wrap64 (t + 1)) n a b) (fun k => ?_) ?_
    · simp only [triads_Find.l0]
      rw [if_pos (by omega)]
    · refine Ev.bind (f := fun k v => if v = x then some (t, 0) else triads_Find.l0 k x (2 * n) (wrap64 (t + 1)) n a b) (tones_f hk (tri_of h0 (by omega))) ?_
      rw [w64 (x := t + 1) (by omega) (by omega)]
      unfold findT
      by_cases e : ((tonesN n a b t : Nat) : Int) = x
      · simp only [if_pos e]
        exact Ev.now _
      · simp only [if_neg e]
        exact find_l0 hk x d (t + 1) (by omega) (by omega)
/-- What Find answers. -/
def findV (n a b x : Int) : Int × Int := if isKind n a b = true ∧ 0 ≤ x ∧ x < ((2 ^ n.toNat : Nat) : Int) then findT n a b x (2 * n).toNat 0 else (0, 2)
theorem shl_n {n : Int} (h0 : 0 ≤ n) (h1 : n ≤ 16) : shl .i64 1 n = ((2 ^ n.toNat : Nat) : Int) := by
  obtain ⟨m, rfl⟩ := Int.eq_ofNat_of_zero_le h0
  rw [shl_one m (by omega)]
  rfl
theorem find_f {n a b : Int} (x : Int) (hn : Int64 n) (ha : Int64 a) (hb : Int64 b) : Ev (fun k => triads_Find.f k n a b x) (findV n a b x) := by
  unfold triads_Find.f findV
  rw [valid_f n a b hn ha hb]
  simp only [Option.bind_some]
  have bad : Ev (fun k => triads_Find.j0 k x true n a b) ((0, 2) : Int × Int) := Ev.done fun k => by simp [triads_Find.j0]
  cases hk : isKind n a b with
  | false =>
    simp only [Bool.false_eq_true, if_false, false_and]
    exact bad
  | true =>
    obtain ⟨h1, h2, h3, h4, h5, _⟩ := of_decide_eq_true hk
    simp only [if_true, true_and]
    by_cases hx : x < 0
    · simp only [if_pos hx]
      rw [if_neg (by omega)]
      exact bad
    · simp only [if_neg hx]
      simp only [if_pos (show (0 : Int) ≤ n by omega), shl_n (show (0 : Int) ≤ n by omega) h2]
      by_cases hx2 : x < ((2 ^ n.toNat : Nat) : Int)
      · rw [if_pos ⟨by omega, hx2⟩]
        simp only [decide_eq_false (show ¬ x ≥ ((2 ^ n.toNat : Nat) : Int) by omega)]
        refine Ev.step (f := fun k => triads_Find.l0 k x (2 * n) 0 n a b) (fun k => ?_) (find_l0 hk x _ 0 (by omega) (by omega))
        simp only [triads_Find.j0, Bool.false_eq_true, if_false]
        rw [w64 (x := 2 * n) (by omega) (by omega)]
      · rw [if_neg (fun h => hx2 h.2)]
        simp only [decide_eq_true (show x ≥ ((2 ^ n.toNat : Nat) : Int) by omega)]
        exact bad
theorem Tones_f {n a b : Int} (t : Int) (hn : Int64 n) (ha : Int64 a) (hb : Int64 b) : Ev (fun k => triads_Tones.f k n a b t) (if (isKind n a b && isTri n t) = true then (((tonesN n a b t : Nat) : Int), (0 : Int)) else (0, 2)) := by
  unfold triads_Tones.f
  rw [isTriad_f n a b t hn ha hb]
  simp only [Option.bind_some]
  cases hk : (isKind n a b && isTri n t) with
  | false => exact Ev.now _
  | true =>
    obtain ⟨hk1, hk2⟩ := Bool.and_eq_true_iff.1 hk
    simp only [if_true]
    exact Ev.bind (tones_f hk1 hk2) (Ev.now _)
end
end Go.Proofs.YtolnpamjkhbgeaaDoor.Base
namespace Go.Proofs.YtolnpamjkhbgeaaDoor.Base
section
open Go.RowKit Go.Proofs.YtolnpamjkhbgeaaDoor.P Go.Proofs.YtolnpamjkhbgeaaDoorW.PrintWords Go.Proofs.YtolnpamjkhbgeaaDoorW.PrintLast Go.Proofs.YtolnpamjkhbgeaaDoor.Kit Go.Proofs.YtolnpamjkhbgeaaDoor.Tri
theorem tmod_emod (x n : Int) (hn : 0 < n) : Int.tmod x n % n = x % n := by
  rw [Int.tmod_eq_emod]
  split
  · simp
  · have hna : (n.natAbs : Int) = n := by omega
    rw [hna, Int.sub_emod_right, Int.emod_emod_of_dvd _ (Int.dvd_refl n)]
theorem number_pos (n a b x : Int) (dark : Bool) (hn0 : 0 < n) (hn : n ≤ 16) : triads_Kind_number.f n a b x dark = some (pos n dark x) := by
  rw [number_f n a b x dark hn0 hn]
  unfold pos
  congr 1
  cases dark
  · rfl
  · simp only [if_true]; omega
theorem shift_f {n a b : Int} (t k : Int) (turned : Bool) (hn : Int64 n) (ha : Int64 a) (hb : Int64 b) : triads_Shift.f n a b t k turned = some (if (isKind n a b && isTri n t) = true then (shiftI n t k turned, 0) else (0, 2)) := by
  unfold triads_Shift.f
  rw [isTriad_f n a b t hn ha hb]
  simp only [Option.bind_some]
  cases hk : (isKind n a b && isTri n t) with
  | false => rfl
  | true =>
    obtain ⟨hk1, hk2⟩ := Bool.and_eq_true_iff.1 hk
    obtain ⟨h1, h2, h3⟩ := of_decide_eq_true hk1
    obtain ⟨ht0, ht⟩ := of_decide_eq_true hk2
    have hn0 : 0 < n := by omega
    have ts := tmod_small k n hn0
    have tt := tmod_small t n hn0
    simp only [if_true]
    rw [if_neg (by omega)]
    unfold triads_Kind_triad.f
    rw [if_neg (by omega)]
    simp only [Option.bind_some]
    rw [w64 (x := Int.tmod k n - Int.tmod t n) (by omega) (by omega), w64 (x := Int.tmod t n + Int.tmod k n) (by omega) (by omega), number_pos n a b _ _ hn0 h2]
    simp only [Option.bind_some]
    congr 2
    unfold shiftI
    have hd : (if turned = true then !decide (t ≥ n) else decide (t ≥ n)) = (decide (n ≤ t) != turned) := by
      have e : decide (t ≥ n) = decide (n ≤ t) := rfl
      rw [e]
      cases turned <;> cases decide (n ≤ t) <;> rfl
    rw [hd]
    refine pos_congr _ ?_
    cases turned with
    | true =>
      simp only [if_true]
      rw [Int.sub_emod, tmod_emod k n hn0, tmod_emod t n hn0, ← Int.sub_emod]
    | false =>
      simp only [Bool.false_eq_true, if_false]
      rw [Int.add_emod, tmod_emod k n hn0, tmod_emod t n hn0, ← Int.add_emod]
end
end Go.Proofs.YtolnpamjkhbgeaaDoor.Base
namespace Go.Proofs.YtolnpamjkhbgeaaDoor.Base
section
open Go.RowKit Go.Proofs.YtolnpamjkhbgeaaDoor.P Go.Proofs.YtolnpamjkhbgeaaDoorW.PrintWords Go.Proofs.YtolnpamjkhbgeaaDoorW.PrintLast Go.Proofs.YtolnpamjkhbgeaaDoor.Kit Go.Proofs.YtolnpamjkhbgeaaDoor.Tri
theorem int64_of {x : Int} (h : (Lit.int .i64 x).wf = true) : Int64 x := by
  have h2 : (decide (IntKind.i64.min ≤ x) && decide (x ≤ IntKind.i64.max)) = true := h
  rw [Bool.and_eq_true, decide_eq_true_eq, decide_eq_true_eq] at h2
  have m1 : IntKind.i64.min = -9223372036854775808 := by decide
  have m2 : IntKind.i64.max = 9223372036854775807 := by decide
  rw [m1, m2] at h2
  unfold Int64
  omega
end
end Go.Proofs.YtolnpamjkhbgeaaDoor.Base
end
