/- What Sum of the program and of the reference compute: the sum over all pairs of tones, as a plain sum. -/
import Derived.Test.YthbcdmbicfmeaaaP1
import Derived.Test.YthbcdmbicfmeaaaP2
import Derived.Test.YthbcdmbicfmeaaaBase
namespace Go.Proofs.Ythbcdmbicfmeaaa.SumLaw
open Go.RowKit Go.Proofs.Ythbcdmbicfmeaaa.P Go.Proofs.Ythbcdmbicfmeaaa.Kit Go.Proofs.Ythbcdmbicfmeaaa.Base Go.Proofs.YthbcdmbicfmeaaaW.PrintWords Go.Proofs.YthbcdmbicfmeaaaW.PrintLast

theorem mul_bound (a b : Int) (h1 : -128 ≤ a) (h2 : a ≤ 128) (h3 : -192 ≤ b) (h4 : b ≤ 192) : -24576 ≤ a * b ∧ a * b ≤ 24576 := by
  have h : (a * b).natAbs ≤ 128 * 192 := by
    rw [Int.natAbs_mul]
    exact Nat.mul_le_mul (by omega) (by omega)
  omega

/-- What the pairs of x and the d tones from the j-th on add. -/
def inner (n x : Int) (t : List Int) : Nat → Nat → Int → Int
  | _, 0, acc => acc
  | j, d + 1, acc => inner n x t (j + 1) d (acc + (x - rd t j) * (n - x + rd t j))
/-- What the pairs of the d tones from the i-th on, each with those ahead of it, add. -/
def outer (n : Int) (t : List Int) : Nat → Nat → Int → Int
  | _, 0, acc => acc
  | i, d + 1, acc => outer n t (i + 1) d (inner n (rd t i) t 0 i acc)
def sumI (n : Int) (t : List Int) : Int := outer n t 0 t.length 0

/-- All of a list's numbers are small. -/
def Small (t : List Int) : Prop := ∀ i : Nat, 0 ≤ rd t i ∧ rd t i ≤ 62

theorem rd_take (t : List Int) (i j : Nat) (h : j < i) : rd (t.take i) (j : Int) = rd t (j : Int) := by
  unfold rd
  rw [Int.toNat_natCast, List.getD_eq_getElem?_getD, List.getElem?_take_of_lt h, ← List.getD_eq_getElem?_getD]

theorem step_wrap (n x y acc : Int) (hn0 : 0 ≤ n) (hn : n ≤ 62) (hx0 : 0 ≤ x) (hx : x ≤ 62) (hy0 : 0 ≤ y) (hy : y ≤ 62) (h0 : -2 ^ 60 ≤ acc) (h1 : acc ≤ 2 ^ 60) :
    wrap64 (acc + wrap64 (wrap64 (x - y) * wrap64 (wrap64 (n - x) + y))) = acc + (x - y) * (n - x + y) ∧ (acc + (x - y) * (n - x + y)) - acc ≤ 24576 ∧ acc - (acc + (x - y) * (n - x + y)) ≤ 24576 := by
  have hb := mul_bound (x - y) (n - x + y) (by omega) (by omega) (by omega) (by omega)
  rw [w64 (x := x - y) (by omega) (by omega), w64 (x := n - x) (by omega) (by omega), w64 (x := n - x + y) (by omega) (by omega), w64 (x := (x - y) * (n - x + y)) (by omega) (by omega)]
  generalize (x - y) * (n - x + y) = m at hb ⊢
  exact ⟨w64 (by omega) (by omega), by omega, by omega⟩

theorem even_inner (n : Int) (t : List Int) (hn0 : 0 ≤ n) (hn : n ≤ 62) (hs : Small t) (hl : t.length ≤ 62) (i : Nat) (hi : i < t.length) (r : Int) :
    ∀ (d j : Nat) (acc : Int), j + d = i → -(24576 * (65 * i + j : Nat) : Int) ≤ acc → acc ≤ (24576 * (65 * i + j : Nat) : Int) →
      (∀ acc', acc' = inner n (rd t i) t j d acc → -(24576 * (65 * i + i : Nat) : Int) ≤ acc' → acc' ≤ (24576 * (65 * i + i : Nat) : Int) → Ev (fun k => even_scale_sum.l0 k acc' t t.length ((i + 1 : Nat) : Int) n t) r) →
      Ev (fun k => even_scale_sum.l1 k acc (rd t i) t t.length i (t.take i) i j n t) r
  | 0, j, acc, h, hb0, hb1, hk => by
    obtain rfl : j = i := by omega
    refine Ev.step (fun k => ?_) (hk acc rfl hb0 hb1)
    simp only [even_scale_sum.l1]
    rw [if_neg (by omega), wsucc j (by omega)]
  | d + 1, j, acc, h, hb0, hb1, hk => by
    have hx := hs i
    have hy := hs j
    have hsw := step_wrap n (rd t i) (rd t j) acc hn0 hn hx.1 hx.2 hy.1 hy.2 (by omega) (by omega)
    have hlt : (List.take i t).length = i := by simp; omega
    refine Ev.step (f := fun k => even_scale_sum.l1 k (acc + (rd t i - rd t j) * (n - rd t i + rd t j)) (rd t i) t t.length i (t.take i) i ((j + 1 : Nat) : Int) n t) (fun k => ?_) (even_inner n t hn0 hn hs hl i hi r d (j + 1) _ (by omega) (by omega) (by omega) hk)
    simp only [even_scale_sum.l1]
    rw [if_pos (by omega), if_pos (by omega), if_pos (by rw [hlt]; omega), rd_take t i j (by omega), hsw.1, wsucc j (by omega)]

theorem even_outer (n : Int) (t : List Int) (hn0 : 0 ≤ n) (hn : n ≤ 62) (hs : Small t) (hl : t.length ≤ 62) :
    ∀ (d i : Nat) (acc : Int), i + d = t.length → -(24576 * (65 * i : Nat) : Int) ≤ acc → acc ≤ (24576 * (65 * i : Nat) : Int) →
      Ev (fun k => even_scale_sum.l0 k acc t t.length i n t) (outer n t i d acc)
  | 0, i, acc, h, _, _ => by
    refine Ev.done fun k => ?_
    simp only [even_scale_sum.l0]
    rw [if_neg (by omega)]
    rfl
  | d + 1, i, acc, h, hb0, hb1 => by
    refine Ev.step (fun k => ?_) (even_inner n t hn0 hn hs hl i (by omega) (outer n t i (d + 1) acc) i 0 acc (by omega) (by omega) (by omega) ?_)
    · simp only [even_scale_sum.l0]
      have hlt : ((List.take (i : Int).toNat t).length : Int) = i := by simp; omega
      rw [if_pos (by omega), if_pos (by omega), if_pos (by omega), if_pos (by omega)]
      simp only [Option.bind_some]
      rw [hlt]
      rfl
    · intro acc' he h0 h1
      subst he
      exact even_outer n t hn0 hn hs hl d (i + 1) _ (by omega) (by omega) (by omega)

theorem even_sum (n : Int) (t : List Int) (hn0 : 0 ≤ n) (hn : n ≤ 62) (hs : Small t) (hl : t.length ≤ 62) : Ev (fun k => even_scale_sum.f k n t) (sumI n t) :=
  even_outer n t hn0 hn hs hl t.length 0 0 (by omega) (by omega) (by omega)

theorem ref_inner (n : Int) (t : List Int) (hn0 : 0 ≤ n) (hn : n ≤ 62) (hs : Small t) (hl : t.length ≤ 62) (i : Nat) (hi : i < t.length) (r : Int) :
    ∀ (d j : Nat) (acc : Int), j + d = i → -(24576 * (65 * i + j : Nat) : Int) ≤ acc → acc ≤ (24576 * (65 * i + j : Nat) : Int) →
      (∀ acc', acc' = inner n (rd t i) t j d acc → -(24576 * (65 * i + i : Nat) : Int) ≤ acc' → acc' ≤ (24576 * (65 * i + i : Nat) : Int) → Ev (fun k => sackbutref03_Sum.l0 k n acc' t t t.length ((i + 1 : Nat) : Int)) r) →
      Ev (fun k => sackbutref03_Sum.l1 k n acc t (rd t i) t t.length i (t.take i) i j) r
  | 0, j, acc, h, hb0, hb1, hk => by
    obtain rfl : j = i := by omega
    refine Ev.step (fun k => ?_) (hk acc rfl hb0 hb1)
    simp only [sackbutref03_Sum.l1]
    rw [if_neg (by omega), wsucc j (by omega)]
  | d + 1, j, acc, h, hb0, hb1, hk => by
    have hx := hs i
    have hy := hs j
    have hsw := step_wrap n (rd t i) (rd t j) acc hn0 hn hx.1 hx.2 hy.1 hy.2 (by omega) (by omega)
    have hlt : (List.take i t).length = i := by simp; omega
    refine Ev.step (f := fun k => sackbutref03_Sum.l1 k n (acc + (rd t i - rd t j) * (n - rd t i + rd t j)) t (rd t i) t t.length i (t.take i) i ((j + 1 : Nat) : Int)) (fun k => ?_) (ref_inner n t hn0 hn hs hl i hi r d (j + 1) _ (by omega) (by omega) (by omega) hk)
    simp only [sackbutref03_Sum.l1]
    rw [if_pos (by omega), if_pos (by omega), if_pos (by rw [hlt]; omega), rd_take t i j (by omega), hsw.1, wsucc j (by omega)]

theorem ref_outer (n : Int) (t : List Int) (hn0 : 0 ≤ n) (hn : n ≤ 62) (hs : Small t) (hl : t.length ≤ 62) :
    ∀ (d i : Nat) (acc : Int), i + d = t.length → -(24576 * (65 * i : Nat) : Int) ≤ acc → acc ≤ (24576 * (65 * i : Nat) : Int) →
      Ev (fun k => sackbutref03_Sum.l0 k n acc t t t.length i) (outer n t i d acc)
  | 0, i, acc, h, _, _ => by
    refine Ev.done fun k => ?_
    simp only [sackbutref03_Sum.l0]
    rw [if_neg (by omega)]
    rfl
  | d + 1, i, acc, h, hb0, hb1 => by
    refine Ev.step (fun k => ?_) (ref_inner n t hn0 hn hs hl i (by omega) (outer n t i (d + 1) acc) i 0 acc (by omega) (by omega) (by omega) ?_)
    · simp only [sackbutref03_Sum.l0]
      have hlt : ((List.take (i : Int).toNat t).length : Int) = i := by simp; omega
      rw [if_pos (by omega), if_pos (by omega), if_pos (by omega), if_pos (by omega)]
      simp only [Option.bind_some]
      rw [hlt]
      rfl
    · intro acc' he h0 h1
      subst he
      exact ref_outer n t hn0 hn hs hl d (i + 1) _ (by omega) (by omega) (by omega)

theorem tonesFrom_lt (s : Nat) : ∀ (d i x : Nat), x ∈ tonesFrom s i d → x < i + d
  | 0, _, _, h => by simp [tonesFrom] at h
  | d + 1, i, x, h => by
    unfold tonesFrom at h
    rw [List.mem_append] at h
    rcases h with h | h
    · split at h
      · simp at h; omega
      · simp at h
    · have := tonesFrom_lt s d (i + 1) x h
      omega

theorem small_tones (n s : Nat) (hn : n ≤ 16) : Small (toI (tones n s)) := by
  intro i
  rw [rd_toI]
  rw [List.getD_eq_getElem?_getD]
  cases h : (tones n s)[i]? with
  | none => simp
  | some x =>
    have := tonesFrom_lt s n 0 x (List.mem_of_getElem? h)
    simp only [Option.getD_some]
    omega

theorem Sum_yes (n s : Nat) (h : isScale n s = true) : Ev (fun k => even_Sum.f k n s) (sumI n (toI (tones n s)), 0) := by
  obtain ⟨h1, h2, _, _⟩ := of_decide_eq_true h
  have hl := tones_length n s
  have hsum := even_sum n (toI (tones n s)) (by omega) (by omega) (small_tones n s (by omega)) (by rw [toI_length]; omega)
  refine Ev.congr (fun k => rfl) (Ev.bind (f := fun k (bt111 : Int × List Int × Bool) => (if bt111.2.2 = true then ((even_scale_sum.f k bt111.1 bt111.2.1).bind fun t117 => (some (t117, 0))) else (some (0, 2)))) (read_yes n s h) ?_)
  simp only [if_true]
  exact Ev.bind (f := fun _ t => some (t, 0)) hsum (Ev.now _)

set_option linter.unusedVariables false in
theorem Sum_no (n s : Int) (h : isScale n s = false) : Ev (fun k => even_Sum.f k n s) (0, 2) :=
  Ev.congr (fun k => rfl) (Ev.bind (f := fun k (bt111 : Int × List Int × Bool) => (if bt111.2.2 = true then ((even_scale_sum.f k bt111.1 bt111.2.1).bind fun t117 => (some (t117, 0))) else (some (0, 2)))) (read_no n s h) (Ev.now _))

theorem RefSum (n s : Nat) (h : isScale n s = true) : Ev (fun k => sackbutref03_Sum.f k n s) (sumI n (toI (tones n s))) := by
  obtain ⟨h1, h2, h3, h4⟩ := of_decide_eq_true h
  have hl := tones_length n s
  have hs : s < 2 ^ 62 := by
    rw [Int.toNat_natCast] at h4
    have h5 : s < 2 ^ n := by exact_mod_cast h4
    have := pow_lt n (by omega)
    omega
  have hsum := ref_outer n (toI (tones n s)) (by omega) (by omega) (small_tones n s (by omega)) (by rw [toI_length]; omega) (toI (tones n s)).length 0 0 (by omega) (by omega) (by omega)
  exact Ev.congr (fun k => rfl) (Ev.bind (f := fun k (t124 : List Int) => sackbutref03_Sum.l0 k n 0 t124 t124 (t124.length : Int) 0) (Tones_f n s (by omega) hs) hsum)

end Go.Proofs.Ythbcdmbicfmeaaa.SumLaw
