/- Texts that the proof of TriadsPairs needs, put together in build order by this session's program (wip/tools/claimtrim.py). -/
import Derived.Test.YtpaeobpmkdekfaaDoorTriadsPairsM12
import Derived.Test.YtpaeobpmkdekfaaDoorTriadsPairsM5
import Derived.Test.YtpaeobpmkdekfaaDoorTriadsPairsM15
section
namespace Go.Proofs.YtpaeobpmkdekfaaDoor.Base
open Go.RowKit Go.Proofs.YtpaeobpmkdekfaaDoor.P Go.Proofs.YtpaeobpmkdekfaaDoor.Kit Go.Proofs.YtpaeobpmkdekfaaDoorW.PrintWords Go.Proofs.YtpaeobpmkdekfaaDoorW.PrintLast Go.Proofs.YtpaeobpmkdekfaaDoor.Tri
/-- Moves by one number: all different until the circle is closed. -/
theorem moves_nodup : ∀ n : Fin 17, ∀ d : Fin 17, 0 < n.val → ((List.range (n.val / Nat.gcd n.val d.val)).map fun k => k * d.val % n.val).Nodup ∧ (n.val / Nat.gcd n.val d.val * d.val) % n.val = 0 := by decide +kernel
/-- By how much a walk of two steps leads. -/
theorem alt_two (a b : Int) (c d : UInt8) : ∀ w : List UInt8, (∀ x, x ∈ w → x = c ∨ x = d) → ∃ k : Int, alt a b w = (if odd w = true then up a b (c.toNat : Int) else 0) + k * (up a b (c.toNat : Int) - up a b (d.toNat : Int))
  | [], _ => ⟨0, by simp [alt, odd]⟩
  | x :: w, h => by
    obtain ⟨k, hk⟩ := alt_two a b c d w (fun y hy => h y (List.mem_cons_of_mem _ hy))
    have e : alt a b (x :: w) = up a b (x.toNat : Int) - alt a b w := rfl
    have eo : odd (x :: w) = !odd w := rfl
    rw [e, eo, hk]
    have hx : up a b (x.toNat : Int) = up a b (c.toNat : Int) ∨ up a b (x.toNat : Int) = up a b (d.toNat : Int) := by
      rcases h x List.mem_cons_self with rfl | rfl
      · exact .inl rfl
      · exact .inr rfl
    generalize up a b (x.toNat : Int) = X at *
    generalize up a b (c.toNat : Int) = C at *
    generalize up a b (d.toNat : Int) = D at *
    cases ho : odd w with
    | true =>
      simp only [Bool.not_true, Bool.false_eq_true, if_false, if_true]
      rcases hx with rfl | rfl
      · exact ⟨-k, by rw [Int.neg_mul]; omega⟩
      · exact ⟨-k - 1, by rw [Int.sub_mul, Int.neg_mul, Int.one_mul]; omega⟩
    | false =>
      simp only [Bool.not_false, Bool.false_eq_true, if_false, if_true]
      rcases hx with rfl | rfl
      · exact ⟨-k, by rw [Int.neg_mul]; omega⟩
      · exact ⟨-k - 1, by rw [Int.sub_mul, Int.neg_mul, Int.one_mul]; omega⟩
/-- Two steps, so many times. -/
def twice (c d : UInt8) : Nat → List UInt8
  | 0 => []
  | k + 1 => c :: d :: twice c d k
theorem twice_alt (a b : Int) (c d : UInt8) : ∀ k : Nat, odd (twice c d k) = false ∧ alt a b (twice c d k) = (k : Int) * (up a b (c.toNat : Int) - up a b (d.toNat : Int)) ∧ ∀ x, x ∈ twice c d k → x = c ∨ x = d
  | 0 => by simp [twice, odd, alt]
  | k + 1 => by
    obtain ⟨h1, h2, h3⟩ := twice_alt a b c d k
    refine ⟨by simp [twice, odd, h1], ?_, ?_⟩
    · have e : alt a b (twice c d (k + 1)) = up a b (c.toNat : Int) - (up a b (d.toNat : Int) - alt a b (twice c d k)) := rfl
      rw [e, h2, show ((k + 1 : Nat) : Int) = (k : Int) + 1 by omega, Int.add_mul, Int.one_mul]
      omega
    · intro x hx
      rcases List.mem_cons.1 hx with hx | hx
      · exact .inl hx
      · rcases List.mem_cons.1 hx with hx | hx
        · exact .inr hx
        · exact h3 x hx
/-- The triads that so many double steps lead to, and those with one step more. -/
def pairL (n : Int) (dark : Bool) (r C D : Int) (m : Nat) : List Int :=
  ((List.range m).map fun (k : Nat) => pos n dark (if dark = true then r - (k : Int) * D else r + (k : Int) * D)) ++
  ((List.range m).map fun (k : Nat) => pos n (!dark) (if dark = true then r - (C + (k : Int) * D) else r + (C + (k : Int) * D)))
theorem emod_cancel {n x y r : Int} (h : (r + x) % n = (r + y) % n) : x % n = y % n := by
  have := emod_sub_congr h r
  rw [show r + x - r = x by omega, show r + y - r = y by omega] at this
  exact this
theorem emod_cancel' {n x y r : Int} (h : (r - x) % n = (r - y) % n) : x % n = y % n := by
  have := emod_rsub_congr h r
  rw [show r - (r - x) = x by omega, show r - (r - y) = y by omega] at this
  exact this
/-- Moves that lead to one place are the same. -/
theorem moves_inj {n : Int} (hn : 0 < n) (h16 : n ≤ 16) (D : Int) (hD : D.natAbs ≤ 16) (j k : Nat) (hj : j < n.toNat / Nat.gcd n.toNat D.natAbs) (hk : k < n.toNat / Nat.gcd n.toNat D.natAbs) (h : ((j : Int) * D) % n = ((k : Int) * D) % n) : j = k := by
  have hm := (moves_nodup ⟨n.toNat, by omega⟩ ⟨D.natAbs, by omega⟩ (by show 0 < n.toNat; omega)).1
  rw [List.Nodup, List.pairwise_map, List.pairwise_iff_getElem] at hm
  have habs : ((j : Int) * (D.natAbs : Int)) % n = ((k : Int) * (D.natAbs : Int)) % n := by
    rcases Int.natAbs_eq D with e | e
    · rw [← e]; exact h
    · rw [show (D.natAbs : Int) = -D by omega]
      have := emod_rsub_congr h 0
      rw [Int.zero_sub, Int.zero_sub] at this
      rw [Int.mul_neg, Int.mul_neg]
      exact this
  have hnat : j * D.natAbs % n.toNat = k * D.natAbs % n.toNat := by
    have e1 : (n.toNat : Int) = n := by omega
    have : ((j * D.natAbs % n.toNat : Nat) : Int) = ((k * D.natAbs % n.toNat : Nat) : Int) := by
      push_cast
      rw [e1]
      exact habs
    exact_mod_cast this
  rcases Nat.lt_trichotomy j k with g | g | g
  · have := hm j k (by rw [List.length_range]; exact hj) (by rw [List.length_range]; exact hk) g
    rw [List.getElem_range, List.getElem_range] at this
    exact absurd hnat this
  · exact g
  · have := hm k j (by rw [List.length_range]; exact hk) (by rw [List.length_range]; exact hj) g
    rw [List.getElem_range, List.getElem_range] at this
    exact absurd hnat.symm this
theorem pair_nodup {n : Int} (hn : 0 < n) (h16 : n ≤ 16) (dark : Bool) (r C D : Int) (hD : D.natAbs ≤ 16) : (pairL n dark r C D (n.toNat / Nat.gcd n.toNat D.natAbs)).Nodup := by
  unfold pairL
  rw [List.nodup_append]
  refine ⟨?_, ?_, ?_⟩
  · rw [List.Nodup, List.pairwise_map, List.pairwise_iff_getElem]
    intro i j hi hj hij e
    rw [List.length_range] at hi hj
    rw [List.getElem_range, List.getElem_range, pos_inj hn] at e
    have : i = j := moves_inj hn h16 D hD i j hi hj (by
      cases dark with
      | true => exact emod_cancel' (r := r) e.2
      | false => exact emod_cancel (r := r) e.2)
    omega
  · rw [List.Nodup, List.pairwise_map, List.pairwise_iff_getElem]
    intro i j hi hj hij e
    rw [List.length_range] at hi hj
    rw [List.getElem_range, List.getElem_range, pos_inj hn] at e
    have : i = j := moves_inj hn h16 D hD i j hi hj (by
      cases dark with
      | true => exact emod_cancel (r := C) (emod_cancel' (r := r) e.2)
      | false => exact emod_cancel (r := C) (emod_cancel (r := r) e.2))
    omega
  · intro x hx y hy e
    obtain ⟨i, _, rfl⟩ := List.mem_map.1 hx
    obtain ⟨j, _, rfl⟩ := List.mem_map.1 hy
    rw [pos_inj hn] at e
    cases dark <;> simp at e
theorem orbit_pair {n a b : Int} (hk : isKind n a b = true) (c d : UInt8) (t : Int) (h0 : 0 ≤ t) (h1 : t < 2 * n) (hD : (up a b (c.toNat : Int) - up a b (d.toNat : Int)).natAbs ≤ 16) : (searchL n a b [c, d] t).length = 2 * (n.toNat / Nat.gcd n.toNat (up a b (c.toNat : Int) - up a b (d.toNat : Int)).natAbs) := by
  have hn := kind_pos hk
  have h16 := (of_decide_eq_true hk).2.1
  obtain ⟨C, hC⟩ : ∃ C, C = up a b (c.toNat : Int) := ⟨_, rfl⟩
  obtain ⟨D, hDd⟩ : ∃ D, D = up a b (c.toNat : Int) - up a b (d.toNat : Int) := ⟨_, rfl⟩
  rw [← hDd] at hD ⊢
  obtain ⟨m, hm⟩ : ∃ m, m = n.toNat / Nat.gcd n.toNat D.natAbs := ⟨_, rfl⟩
  have hmpos : 0 < m := by
    rw [hm]
    exact Nat.div_pos (Nat.le_of_dvd (by omega) (Nat.gcd_dvd_left _ _)) (Nat.gcd_pos_of_pos_left _ (by omega))
  have hmz := (moves_nodup ⟨n.toNat, by omega⟩ ⟨D.natAbs, by omega⟩ (by show 0 < n.toNat; omega)).2
  simp only at hmz
  rw [← hm] at hmz
  have hmD : ((m : Int) * D) % n = 0 := by
    have e1 : (n.toNat : Int) = n := by omega
    have e2 : ((m : Int) * (D.natAbs : Int)) % n = 0 := by
      have : ((m * D.natAbs % n.toNat : Nat) : Int) = 0 := by rw [hmz]; rfl
      push_cast at this
      rw [e1] at this
      exact this
    rcases Int.natAbs_eq D with e | e
    · rw [← e] at e2; exact e2
    · rw [show (D.natAbs : Int) = -D by omega, Int.mul_neg] at e2
      have := emod_rsub_congr (n := n) (r := -((m : Int) * D)) (s := 0) (by rw [e2]; simp) 0
      rw [show (0 : Int) - -((m : Int) * D) = (m : Int) * D by omega] at this
      rw [this]
      simp
  have hmod : ∀ k : Int, (k * D) % n = (((k % (m : Int)).toNat : Int) * D) % n := by
    intro k
    have e1 := Int.mul_ediv_add_emod k m
    have e2 := Int.emod_nonneg k (show (m : Int) ≠ 0 by omega)
    rw [Int.toNat_of_nonneg e2]
    have e3 : k * D = (m : Int) * D * (k / m) + (k % m) * D := by
      have h2 : k * D = ((m : Int) * (k / m) + k % m) * D := by rw [e1]
      rw [h2, Int.add_mul, Int.mul_assoc, Int.mul_assoc, Int.mul_comm (k / m) D]
    rw [e3, Int.add_emod, Int.mul_emod, hmD]
    simp
  have hsub : ∀ u, u ∈ orbit n a b [c, d] t ↔ u ∈ pairL n (decide (n ≤ t)) t C D m := by
    intro u
    rw [mem_orbit hk [c, d] t h0 h1]
    unfold pairL
    rw [List.mem_append, List.mem_map, List.mem_map]
    constructor
    · rintro ⟨w, hw, rfl⟩
      obtain ⟨k, hkk⟩ := alt_two a b c d w (fun x hx => by simpa using hw x hx)
      rw [← hDd, ← hC] at hkk
      have hlt := Int.emod_lt_of_pos k (show (0 : Int) < m by omega)
      have hnn := Int.emod_nonneg k (show (m : Int) ≠ 0 by omega)
      have hpos := walk_pos hn a b w (decide (n ≤ t)) t
      rw [pos_of h0 h1] at hpos
      rw [hpos, hkk]
      cases ho : odd w with
      | false =>
        left
        refine ⟨(k % (m : Int)).toNat, List.mem_range.2 (by omega), ?_⟩
        rw [pos_inj hn]
        refine ⟨by cases decide (n ≤ t) <;> rfl, ?_⟩
        simp only [Bool.false_eq_true, if_false, Int.zero_add]
        cases decide (n ≤ t) with
        | true => exact emod_rsub_congr (hmod k).symm t
        | false =>
          simp only [Bool.false_eq_true, if_false]
          rw [Int.add_emod, ← hmod k, ← Int.add_emod]
      | true =>
        right
        refine ⟨(k % (m : Int)).toNat, List.mem_range.2 (by omega), ?_⟩
        rw [pos_inj hn]
        refine ⟨by cases decide (n ≤ t) <;> rfl, ?_⟩
        have hC2 : (C + ((k % (m : Int)).toNat : Int) * D) % n = (C + k * D) % n := by rw [Int.add_emod, ← hmod k, ← Int.add_emod]
        simp only [if_true]
        cases decide (n ≤ t) with
        | true => exact emod_rsub_congr hC2 t
        | false =>
          simp only [Bool.false_eq_true, if_false]
          rw [Int.add_emod, hC2, ← Int.add_emod]
    · rintro (⟨k, _, rfl⟩ | ⟨k, _, rfl⟩)
      · obtain ⟨g1, g2, g3⟩ := twice_alt a b c d k
        refine ⟨twice c d k, fun x hx => by simpa using g3 x hx, ?_⟩
        have hpos := walk_pos hn a b (twice c d k) (decide (n ≤ t)) t
        rw [pos_of h0 h1, g1, g2, ← hDd] at hpos
        rw [hpos]
        cases decide (n ≤ t) <;> rfl
      · obtain ⟨g1, g2, g3⟩ := twice_alt a b c d k
        refine ⟨twice c d k ++ [c], fun x hx => ?_, ?_⟩
        · rcases List.mem_append.1 hx with hx | hx
          · simpa using g3 x hx
          · rw [List.mem_singleton.1 hx]; exact List.mem_cons_self
        · have hpos := walk_pos hn a b (twice c d k ++ [c]) (decide (n ≤ t)) t
          have e1 : alt a b [c] = up a b (c.toNat : Int) := by
            show up a b (c.toNat : Int) - 0 = _
            omega
          have e2 : alt a b (twice c d k ++ [c]) = C + (k : Int) * D := by
            rw [alt_append, g1, if_neg (by decide), g2, e1, ← hDd, ← hC, Int.add_comm]
          have e3 : odd (twice c d k ++ [c]) = true := by rw [odd_append, g1]; rfl
          rw [pos_of h0 h1, e2, e3] at hpos
          rw [hpos]
          cases decide (n ≤ t) <;> rfl
  have hperm : (orbit n a b [c, d] t).Perm (pairL n (decide (n ≤ t)) t C D m) := (List.perm_ext_iff_of_nodup (searchL_inv hk [c, d] t h0 h1).nodup (by rw [hm]; exact pair_nodup hn h16 _ _ _ _ hD)).2 hsub
  have hl := hperm.length_eq
  have hl2 : (pairL n (decide (n ≤ t)) t C D m).length = 2 * m := by
    unfold pairL
    rw [List.length_append, List.length_map, List.length_map, List.length_range]
    omega
  have hl1 : (orbit n a b [c, d] t).length = (searchL n a b [c, d] t).length := by unfold orbit; rw [List.length_map]
  rw [← hm]
  omega
/-- The common divisor, as the statement finds it. -/
theorem gcd_f : ∀ (m b a : Nat), b ≤ m → Ev (fun k => sackbutlaw04_gcd.f k (a : Int) (b : Int)) ((Nat.gcd a b : Nat) : Int)
  | 0, b, a, h => by
    obtain rfl : b = 0 := by omega
    rw [Nat.gcd_zero_right]
    refine Ev.done fun k => ?_
    simp [sackbutlaw04_gcd.f, sackbutlaw04_gcd.l0]
  | m + 1, b, a, h => by
    by_cases hb : b = 0
    · subst hb
      rw [Nat.gcd_zero_right]
      refine Ev.done fun k => ?_
      simp [sackbutlaw04_gcd.f, sackbutlaw04_gcd.l0]
    · have hlt := Nat.mod_lt a (show 0 < b by omega)
      have ih := gcd_f m (a % b) b (by omega)
      have e : Nat.gcd b (a % b) = Nat.gcd a b := by rw [Nat.gcd_comm, ← Nat.gcd_rec b a, Nat.gcd_comm]
      rw [e] at ih
      refine Ev.step (fun k => ?_) ih
      simp only [sackbutlaw04_gcd.f, sackbutlaw04_gcd.l0]
      rw [if_neg (by omega), Int.tmod_eq_emod_of_nonneg (by omega)]
      simp
theorem isSorted_l0 (l : List Int) (hl : l.length < 1000) (h : l.Pairwise fun x y => x ≤ y) : ∀ i : Nat, i < l.length → Ev (fun k => slices_IsSorted_int_int.l0 k l (i : Int)) true
  | 0, _ => by
    refine Ev.done fun k => ?_
    simp [slices_IsSorted_int_int.l0]
  | i + 1, hi => by
    refine Ev.step (fun k => ?_) (isSorted_l0 l hl h i (by omega))
    simp only [slices_IsSorted_int_int.l0]
    have e : wrap64 (((i + 1 : Nat) : Int) - 1) = (i : Int) := by rw [w64 (by omega) (by omega)]; omega
    have hle := List.pairwise_iff_getElem.1 h i (i + 1) (by omega) hi (by omega)
    rw [e, if_pos (by omega), if_pos (by omega), if_pos (by omega), if_pos (by omega), if_pos (by omega), rd_nat l (i + 1) hi, rd_nat l i (by omega)]
    have hle2 : ¬ l[i + 1] < l[i] := by omega
    simp [cmp_Less_int.f, cmp_isNaN_int.f, hle2]
theorem isSorted_f (l : List Int) (hl : l.length < 1000) (h : l.Pairwise fun x y => x ≤ y) : Ev (fun k => slices_IsSorted_int_int.f k l) true := by
  unfold slices_IsSorted_int_int.f
  rw [w64 (by omega) (by omega)]
  by_cases h0 : l.length = 0
  · refine Ev.done fun k => ?_
    simp only [slices_IsSorted_int_int.l0]
    rw [if_neg (by omega)]
  · rw [show (l.length : Int) - 1 = ((l.length - 1 : Nat) : Int) by omega]
    exact isSorted_l0 l hl h _ (by omega)
theorem index_l0 (l : List Int) (hl : l.length < 1000) (t : Int) (p : Nat) (hp : p < l.length) (ht : l[p] = t) : ∀ d i : Nat, i + d = p → ∃ r : Int, 0 ≤ r ∧ Ev (fun k => slices_Index_int_int.l0 k l t (l.length : Int) (i : Int)) r
  | d, i, h => by
    by_cases e : t = rd l (i : Int)
    · refine ⟨i, by omega, Ev.done fun k => ?_⟩
      simp only [slices_Index_int_int.l0]
      rw [if_pos (by omega), if_pos (by omega), if_pos (by omega), if_pos e]
    · cases d with
      | zero =>
        obtain rfl : i = p := by omega
        rw [rd_nat l i hp] at e
        exact absurd ht.symm e
      | succ d =>
        obtain ⟨r, h0, hr⟩ := index_l0 l hl t p hp ht d (i + 1) (by omega)
        refine ⟨r, h0, Ev.step (fun k => ?_) hr⟩
        simp only [slices_Index_int_int.l0]
        rw [if_pos (by omega), if_pos (by omega), if_pos (by omega), if_neg e, w64 (by omega) (by omega)]
        rfl
theorem contains_f (l : List Int) (hl : l.length < 1000) (t : Int) (ht : t ∈ l) : Ev (fun k => slices_Contains_int_int.f k l t) true := by
  obtain ⟨p, hp, e⟩ := List.mem_iff_getElem.1 ht
  obtain ⟨r, h0, hr⟩ := index_l0 l hl t p hp e p 0 (by omega)
  unfold slices_Contains_int_int.f
  refine Ev.bind (f := fun k v => some (decide (v ≥ 0))) hr ?_
  rw [decide_eq_true h0]
  exact Ev.now _
theorem sorted_pairwise (l : List Int) : (Slices.sorted l).Pairwise fun x y => x ≤ y := by
  have := List.pairwise_mergeSort (le := fun x y : Int => decide (x ≤ y)) (fun x y z h1 h2 => decide_eq_true (Int.le_trans (of_decide_eq_true h1) (of_decide_eq_true h2))) (fun x y => by rw [Bool.or_eq_true, decide_eq_true_eq, decide_eq_true_eq]; omega) l
  exact this.imp fun h => of_decide_eq_true h
/-- All that the statement asks of a round by two steps. -/
theorem pair_facts {n a b : Int} (hk : isKind n a b = true) (c d : UInt8) (t : Int) (h0 : 0 ≤ t) (h1 : t < 2 * n) (y : Int) (hy0 : 0 < y) (hy1 : y ≤ 16) (hy : up a b (c.toNat : Int) - up a b (d.toNat : Int) = y ∨ up a b (c.toNat : Int) - up a b (d.toNat : Int) = -y) (L : List Int) (hL : L = Slices.sorted ((searchL n a b [c, d] t).map (·.1))) :
    ∃ (g : Int) (kG kS kC : Nat), sackbutlaw04_gcd.f kG n y = some g ∧ 0 < g ∧ (L.length : Int) = 2 * n / g ∧ slices_IsSorted_int_int.f kS L = some true ∧ slices_Contains_int_int.f kC L t = some true ∧ L.length ≤ 32 ∧ 0 < L.length := by
  have hn := kind_pos hk
  have h16 := (of_decide_eq_true hk).2.1
  have hz := round_size hk [c, d] t h0 h1
  rw [← hL] at hz
  have habs : (up a b (c.toNat : Int) - up a b (d.toNat : Int)).natAbs = y.toNat := by omega
  have hsz := orbit_pair hk c d t h0 h1 (by omega)
  rw [habs] at hsz
  obtain ⟨kG, hG⟩ := Ev.rounds (gcd_f y.toNat y.toNat n.toNat (Nat.le_refl _))
  rw [show (n.toNat : Int) = n by omega, show (y.toNat : Int) = y by omega] at hG
  have hmem : t ∈ L := by
    rw [hL]
    unfold Slices.sorted
    rw [List.mem_mergeSort]
    have := List.mem_of_getElem? (searchL_inv hk [c, d] t h0 h1).first
    exact List.mem_map.2 ⟨_, this, rfl⟩
  obtain ⟨kS, hS⟩ := Ev.rounds (isSorted_f L (by omega) (by rw [hL]; exact sorted_pairwise _))
  obtain ⟨kC, hC⟩ := Ev.rounds (contains_f L (by omega) t hmem)
  have hgp : 0 < Nat.gcd n.toNat y.toNat := Nat.gcd_pos_of_pos_left _ (by omega)
  refine ⟨((Nat.gcd n.toNat y.toNat : Nat) : Int), kG, kS, kC, hG, by omega, ?_, hS, hC, by omega, List.length_pos_of_mem hmem⟩
  obtain ⟨q, hq⟩ := Nat.gcd_dvd_left n.toNat y.toNat
  generalize Nat.gcd n.toNat y.toNat = g at *
  have e1 : n.toNat / g = q := by rw [hq]; exact Nat.mul_div_cancel_left q hgp
  have e2 : 2 * n = (g : Int) * (2 * (q : Int)) := by
    have : (n.toNat : Int) = (g : Int) * (q : Int) := by rw [hq]; simp
    rw [show 2 * n = 2 * (n.toNat : Int) by omega, this, Int.mul_left_comm]
  rw [e2, Int.mul_ediv_cancel_left _ (by omega)]
  rw [e1] at hsz
  omega
end Go.Proofs.YtpaeobpmkdekfaaDoor.Base
end
