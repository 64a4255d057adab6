/- Triads by their sort and first tone: steps, walks and shifts in closed form. Plain whole numbers, no program in sight. -/
import Derived.Test.YtpaeobpmkdekfaaDoorWalk
namespace Go.Proofs.YtpaeobpmkdekfaaDoor.Tri
open Go.Proofs.YtpaeobpmkdekfaaDoor.Base

/-- The triad of a sort, whose first tone is a number. -/
def pos (n : Int) (d : Bool) (r : Int) : Int := if d = true then n + r % n else r % n
theorem pos_range {n : Int} (hn : 0 < n) (d : Bool) (r : Int) : 0 ≤ pos n d r ∧ pos n d r < 2 * n := by
  have e := Int.emod_nonneg r (show n ≠ 0 by omega)
  have l := Int.emod_lt_of_pos r hn
  unfold pos
  split <;> omega
theorem pos_dark {n : Int} (hn : 0 < n) (d : Bool) (r : Int) : decide (n ≤ pos n d r) = d := by
  have e := Int.emod_nonneg r (show n ≠ 0 by omega)
  have l := Int.emod_lt_of_pos r hn
  unfold pos
  cases d <;> simp <;> omega
theorem pos_mod {n : Int} (d : Bool) (r : Int) : pos n d r % n = r % n := by
  unfold pos
  cases d
  · simp
  · simp
theorem pos_congr {n : Int} (d : Bool) {r s : Int} (h : r % n = s % n) : pos n d r = pos n d s := by
  unfold pos
  rw [h]
theorem pos_of {n t : Int} (h0 : 0 ≤ t) (h1 : t < 2 * n) : pos n (decide (n ≤ t)) t = t := by
  unfold pos
  by_cases h : n ≤ t
  · rw [decide_eq_true h, if_pos rfl]
    have : t % n = t - n := by rw [← Int.sub_emod_right, Int.emod_eq_of_lt (by omega) (by omega)]
    omega
  · rw [decide_eq_false h, if_neg (by decide)]
    exact Int.emod_eq_of_lt h0 (by omega)
theorem pos_inj {n : Int} (hn : 0 < n) {d e : Bool} {r s : Int} : pos n d r = pos n e s ↔ d = e ∧ r % n = s % n := by
  constructor
  · intro h
    refine ⟨?_, ?_⟩
    · rw [← pos_dark hn d r, ← pos_dark hn e s, h]
    · rw [← pos_mod d r, ← pos_mod e s, h]
  · rintro ⟨rfl, h⟩
    exact pos_congr d h
theorem emod_add_congr {n r s : Int} (h : r % n = s % n) (x : Int) : (r + x) % n = (s + x) % n := by
  rw [Int.add_emod, h, ← Int.add_emod]
theorem emod_sub_congr {n r s : Int} (h : r % n = s % n) (x : Int) : (r - x) % n = (s - x) % n := by
  rw [Int.sub_emod, h, ← Int.sub_emod]
theorem emod_rsub_congr {n r s : Int} (h : r % n = s % n) (x : Int) : (x - r) % n = (x - s) % n := by
  rw [Int.sub_emod, h, ← Int.sub_emod]
theorem step_pos {n : Int} (hn : 0 < n) (a b : Int) (d : Bool) (r c : Int) : stepI n a b (pos n d r) c = pos n (!d) (if d = true then r - up a b c else r + up a b c) := by
  have hd := pos_dark hn d r
  have hm := pos_mod (n := n) d r
  unfold stepI
  cases d with
  | true =>
    have := of_decide_eq_true hd
    rw [if_neg (by omega), if_pos rfl]
    unfold pos at hm ⊢
    simp only [if_true, Bool.not_true, Bool.false_eq_true, if_false]
    exact emod_sub_congr (by simp) _
  | false =>
    have := of_decide_eq_false hd
    rw [if_pos (by omega), if_neg (by decide)]
    unfold pos at hm ⊢
    simp only [Bool.false_eq_true, if_false, Bool.not_false, if_true]
    congr 1
    exact emod_add_congr (by simp) _

/-- By how much a walk goes up from a bright triad, and down from a dark one. -/
def alt (a b : Int) : List UInt8 → Int
  | [] => 0
  | c :: l => up a b (c.toNat : Int) - alt a b l
/-- Whether a walk has an odd number of steps. -/
def odd : List UInt8 → Bool
  | [] => false
  | _ :: l => !odd l
theorem odd_length : ∀ l : List UInt8, odd l = decide (l.length % 2 = 1)
  | [] => rfl
  | c :: l => by
    unfold odd
    rw [odd_length l, List.length_cons]
    by_cases h : l.length % 2 = 1
    · rw [decide_eq_true h, decide_eq_false (by omega)]; rfl
    · rw [decide_eq_false h, decide_eq_true (by omega)]; rfl
theorem walk_pos {n : Int} (hn : 0 < n) (a b : Int) : ∀ (l : List UInt8) (d : Bool) (r : Int), walkI n a b l (pos n d r) = pos n (d != odd l) (if d = true then r - alt a b l else r + alt a b l)
  | [], d, r => by
    unfold walkI odd alt
    cases d <;> simp
  | c :: l, d, r => by
    unfold walkI odd alt
    rw [step_pos hn, walk_pos hn a b l]
    cases d with
    | true =>
      simp only [Bool.not_true, Bool.false_eq_true, if_false, if_true]
      rw [show r - up a b (c.toNat : Int) + alt a b l = r - (up a b (c.toNat : Int) - alt a b l) by omega]
      cases odd l <;> rfl
    | false =>
      simp only [Bool.not_false, Bool.false_eq_true, if_false, if_true]
      rw [show r + up a b (c.toNat : Int) - alt a b l = r + (up a b (c.toNat : Int) - alt a b l) by omega]
      cases odd l <;> rfl
theorem walk_append (n a b : Int) : ∀ (l m : List UInt8) (t : Int), walkI n a b (l ++ m) t = walkI n a b m (walkI n a b l t)
  | [], _, _ => rfl
  | _ :: l, m, _ => walk_append n a b l m _
theorem alt_append (a b : Int) : ∀ l m : List UInt8, alt a b (l ++ m) = if odd l = true then alt a b l - alt a b m else alt a b l + alt a b m
  | [], m => by simp [alt, odd]
  | c :: l, m => by
    have e : odd (c :: l) = !odd l := rfl
    rw [e]
    simp only [List.cons_append, alt]
    rw [alt_append a b l m]
    by_cases h : odd l = true
    · rw [if_pos h, h, if_neg (by decide)]; omega
    · rw [if_neg h, (by simpa using h : odd l = false), if_pos (by decide)]; omega
theorem odd_append : ∀ l m : List UInt8, odd (l ++ m) = (odd l != odd m)
  | [], m => by simp [odd]
  | c :: l, m => by
    simp only [List.cons_append, odd]
    rw [odd_append l m]
    cases odd l <;> cases odd m <;> rfl

/-- A shift. -/
def shiftI (n t k : Int) (turned : Bool) : Int := pos n (decide (n ≤ t) != turned) (if turned = true then k - t else t + k)
theorem shift_pos {n : Int} (hn : 0 < n) (d : Bool) (r k : Int) (turned : Bool) : shiftI n (pos n d r) k turned = pos n (d != turned) (if turned = true then k - r else r + k) := by
  unfold shiftI
  rw [pos_dark hn]
  refine pos_congr _ ?_
  cases turned with
  | true => exact emod_rsub_congr (pos_mod d r) k
  | false => exact emod_add_congr (pos_mod d r) k
theorem shift_range {n : Int} (hn : 0 < n) (t k : Int) (turned : Bool) : 0 ≤ shiftI n t k turned ∧ shiftI n t k turned < 2 * n := pos_range hn _ _
theorem shift_mod {n : Int} (t k : Int) (turned : Bool) : shiftI n t (k % n) turned = shiftI n t k turned := by
  unfold shiftI
  refine pos_congr _ ?_
  cases turned with
  | true => simp
  | false => simp
/-- Walk and then shift is shift and then walk. -/
theorem walk_shift {n : Int} (hn : 0 < n) (a b : Int) (l : List UInt8) (t k : Int) (turned : Bool) (h0 : 0 ≤ t) (h1 : t < 2 * n) : walkI n a b l (shiftI n t k turned) = shiftI n (walkI n a b l t) k turned := by
  rw [← pos_of h0 h1]
  generalize decide (n ≤ t) = d
  rw [shift_pos hn, walk_pos hn, walk_pos hn, shift_pos hn]
  generalize alt a b l = S
  generalize odd l = o
  cases d <;> cases turned <;> cases o <;> simp <;> (refine pos_congr _ ?_; congr 1; omega)
theorem walk_range {n : Int} (hn : 0 < n) (a b : Int) (l : List UInt8) (t : Int) (h0 : 0 ≤ t) (h1 : t < 2 * n) : 0 ≤ walkI n a b l t ∧ walkI n a b l t < 2 * n := by
  rw [← pos_of h0 h1, walk_pos hn]
  exact pos_range hn _ _
/-- Where two walks lead triad 0 to one triad they do the same everywhere. -/
theorem walk_eq_iff {n : Int} (hn : 0 < n) (a b : Int) (l m : List UInt8) (t : Int) (h0 : 0 ≤ t) (h1 : t < 2 * n) : walkI n a b l t = walkI n a b m t ↔ odd l = odd m ∧ alt a b l % n = alt a b m % n := by
  rw [← pos_of h0 h1]
  generalize decide (n ≤ t) = d
  rw [walk_pos hn, walk_pos hn, pos_inj hn]
  constructor
  · rintro ⟨g1, g2⟩
    refine ⟨?_, ?_⟩
    · clear g2
      revert g1
      cases d <;> cases odd l <;> cases odd m <;> simp
    · cases d with
      | true =>
        have := emod_rsub_congr g2 t
        simp only [if_true] at this
        rw [show t - (t - alt a b l) = alt a b l by omega, show t - (t - alt a b m) = alt a b m by omega] at this
        exact this
      | false =>
        have := emod_sub_congr g2 t
        simp only [Bool.false_eq_true, if_false] at this
        rw [show t + alt a b l - t = alt a b l by omega, show t + alt a b m - t = alt a b m by omega] at this
        exact this
  · rintro ⟨g1, g2⟩
    refine ⟨by rw [g1], ?_⟩
    cases d with
    | true => exact emod_rsub_congr g2 t
    | false =>
      simp only [Bool.false_eq_true, if_false]
      rw [Int.add_emod, g2, ← Int.add_emod]

end Go.Proofs.YtpaeobpmkdekfaaDoor.Tri
