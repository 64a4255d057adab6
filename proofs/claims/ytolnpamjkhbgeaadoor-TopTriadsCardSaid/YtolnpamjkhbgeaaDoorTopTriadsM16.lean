/- Texts that the proof of TopTriads needs, put together in build order by this session's program (wip/tools/claimtrim.py). -/
import Derived.Test.YtolnpamjkhbgeaaDoorTopTriadsM15
import Derived.Test.YtolnpamjkhbgeaaDoorTopTriadsM9
import Derived.Test.YtolnpamjkhbgeaaDoorTopTriadsM7
import Derived.Lib.SlicesCompact
section
namespace Go.Proofs.YtolnpamjkhbgeaaDoor.Chord
open Go.Proofs.YtolnpamjkhbgeaaDoor.Base Go.Proofs.YtolnpamjkhbgeaaDoor.Tri Go.Proofs.YtolnpamjkhbgeaaDoor.Bits
theorem lt_of_bits {n : Nat} {s s' : Nat} (hs : s < 2 ^ n) (hs' : s' < 2 ^ n) (h : ∀ x, x < n → (s.testBit x = true ↔ s'.testBit x = true)) : s = s' := by
  apply Nat.eq_of_testBit_eq
  intro x
  by_cases hx : x < n
  · rw [Bool.eq_iff_iff]; exact h x hx
  · rw [Nat.testBit_lt_two_pow (Nat.lt_of_lt_of_le hs (Nat.pow_le_pow_right (by decide) (by omega))), Nat.testBit_lt_two_pow (Nat.lt_of_lt_of_le hs' (Nat.pow_le_pow_right (by decide) (by omega)))]
/-- A chord moved by k. -/
def moved (n s k : Nat) : Nat := (s * 2 ^ k ||| s / 2 ^ (n - k)) &&& (2 ^ n - 1)
theorem moved_bit (n s m x : Nat) (_hm : m ≤ n) (hx : x < n) : (moved n s m).testBit x = ((decide (m ≤ x) && s.testBit (x - m)) || s.testBit (x + (n - m))) := by
  unfold moved
  rw [Nat.testBit_and, Nat.testBit_or, Nat.testBit_mul_two_pow, Nat.testBit_div_two_pow, Nat.testBit_two_pow_sub_one]
  simp [hx]
theorem moved_lt (n s k : Nat) : moved n s k < 2 ^ n := Nat.and_lt_two_pow _ (Nat.sub_lt (Nat.two_pow_pos n) (by decide))
theorem moved_mem (n s m x : Nat) (hm : m < n) (hs : s < 2 ^ n) (hx : x < n) : (moved n s m).testBit x = true ↔ ∃ y, y < n ∧ s.testBit y = true ∧ (m + y) % n = x := by
  have hbit : ∀ x, n ≤ x → s.testBit x = false := fun x hx => Nat.testBit_lt_two_pow (Nat.lt_of_lt_of_le hs (Nat.pow_le_pow_right (by decide) hx))
  rw [moved_bit n s m x (by omega) hx, Bool.or_eq_true, Bool.and_eq_true, decide_eq_true_eq]
  constructor
  · rintro (⟨h1, h2⟩ | h)
    · exact ⟨x - m, by omega, h2, by rw [show m + (x - m) = x by omega, Nat.mod_eq_of_lt hx]⟩
    · have : x + (n - m) < n := by
        refine Nat.lt_of_not_le (fun hle => ?_)
        rw [hbit _ hle] at h
        simp at h
      exact ⟨x + (n - m), this, h, by rw [show m + (x + (n - m)) = x + n by omega, Nat.add_mod_right, Nat.mod_eq_of_lt hx]⟩
  · rintro ⟨y, h1, h2, h3⟩
    by_cases c : m + y < n
    · rw [Nat.mod_eq_of_lt c] at h3
      left
      exact ⟨by omega, by rw [show x - m = y by omega]; exact h2⟩
    · rw [Nat.mod_eq_sub_mod (by omega), Nat.mod_eq_of_lt (by omega)] at h3
      right
      rw [show x + (n - m) = y by omega]
      exact h2
/-- In which direction a triad's tones lie, from its first one on. -/
def way (n t r u : Int) : Int := if n ≤ t then r - u else r + u
theorem tonesN_bit {n : Int} (hn : 0 < n) (a b t : Int) (x : Nat) : (tonesN n a b t).testBit x = true ↔ ∃ u, (u = 0 ∨ u = a ∨ u = b) ∧ (x : Int) = way n t t u % n := by
  have key : ∀ u, (2 ^ toneAt n t u).testBit x = true ↔ (x : Int) = way n t t u % n := by
    intro u
    rw [Nat.testBit_two_pow, decide_eq_true_eq]
    have h := toneAt_int n t u hn
    unfold way
    constructor
    · intro e; rw [← h, e]
    · intro e; exact Int.ofNat.inj (h.trans e.symm)
  unfold tonesN
  rw [Nat.testBit_or, Nat.testBit_or, Bool.or_eq_true, Bool.or_eq_true, key, key, key]
  constructor
  · rintro ((h | h) | h)
    · exact ⟨0, .inl rfl, h⟩
    · exact ⟨a, .inr (.inl rfl), h⟩
    · exact ⟨b, .inr (.inr rfl), h⟩
  · rintro ⟨u, rfl | rfl | rfl, h⟩
    · exact .inl (.inl h)
    · exact .inl (.inr h)
    · exact .inr h
theorem tonesN_lt {n : Int} (hn : 0 < n) (a b t : Int) : tonesN n a b t < 2 ^ n.toNat := by
  refine Nat.lt_pow_two_of_testBit _ (fun i hi => ?_)
  cases h : (tonesN n a b t).testBit i with
  | false => rfl
  | true =>
    obtain ⟨u, _, hx⟩ := (tonesN_bit hn a b t i).1 h
    have := Int.emod_lt_of_pos (way n t t u) hn
    omega
theorem dir_pos {n : Int} (hn : 0 < n) (d : Bool) (r : Int) : (n ≤ pos n d r) = (d = true) := by
  have h := pos_dark hn d r
  cases d with
  | true => exact propext ⟨fun _ => rfl, fun _ => of_decide_eq_true h⟩
  | false => exact propext ⟨fun h2 => absurd h2 (of_decide_eq_false h), fun h2 => by cases h2⟩
theorem way_pos {n : Int} (hn : 0 < n) (d : Bool) (r u : Int) : way n (pos n d r) (pos n d r) u % n = (if d = true then r - u else r + u) % n := by
  unfold way
  simp only [dir_pos hn]
  cases d with
  | true => simp only [if_true]; exact emod_sub_congr (pos_mod true r) u
  | false => simp only [Bool.false_eq_true, if_false]; exact emod_add_congr (pos_mod false r) u
theorem way_of {n t : Int} (u : Int) : way n t t u = if (decide (n ≤ t)) = true then t - u else t + u := by
  unfold way
  simp only [decide_eq_true_eq]
/-- A triad moved is its tones moved. -/
theorem moved_tones {n : Int} (hn : 0 < n) (a b t k : Int) (hk0 : 0 ≤ k) (hk : k < n) : moved n.toNat (tonesN n a b t) k.toNat = tonesN n a b (shiftI n t k false) := by
  refine lt_of_bits (moved_lt _ _ _) (tonesN_lt hn a b _) (fun x hx => ?_)
  rw [moved_mem n.toNat _ k.toNat x (by omega) (tonesN_lt hn a b t) hx, tonesN_bit hn]
  unfold shiftI
  have e : (decide (n ≤ t) != false) = decide (n ≤ t) := by cases decide (n ≤ t) <;> rfl
  rw [e]
  constructor
  · rintro ⟨y, hy, hb, hxy⟩
    obtain ⟨u, hu, hyu⟩ := (tonesN_bit hn a b t y).1 hb
    refine ⟨u, hu, ?_⟩
    rw [way_pos hn, ← hxy]
    simp only [Bool.false_eq_true, if_false]
    have h1 : (((k.toNat + y) % n.toNat : Nat) : Int) = (k + y) % n := by
      rw [Int.natCast_emod, Int.natCast_add, Int.toNat_of_nonneg hk0, Int.toNat_of_nonneg (by omega)]
    rw [h1, hyu, way_of, Int.add_emod_emod]
    congr 1
    split <;> omega
  · rintro ⟨u, hu, hxu⟩
    rw [way_pos hn] at hxu
    simp only [Bool.false_eq_true, if_false] at hxu
    have h0 := Int.emod_nonneg (way n t t u) (show n ≠ 0 by omega)
    have h1 := Int.emod_lt_of_pos (way n t t u) hn
    refine ⟨(way n t t u % n).toNat, by omega, (tonesN_bit hn a b t _).2 ⟨u, hu, Int.toNat_of_nonneg h0⟩, ?_⟩
    have h2 : (((k.toNat + (way n t t u % n).toNat) % n.toNat : Nat) : Int) = (k + way n t t u % n) % n := by
      rw [Int.natCast_emod, Int.natCast_add, Int.toNat_of_nonneg hk0, Int.toNat_of_nonneg h0, Int.toNat_of_nonneg (show 0 ≤ n by omega)]
    refine Int.ofNat.inj ?_
    refine Eq.trans h2 ?_
    rw [Int.add_emod_emod]
    refine Eq.trans ?_ hxu.symm
    rw [way_of]
    congr 1
    split <;> omega
/-- A triad turned is its tones turned. -/
theorem turned_tones {n : Int} (hn : 0 < n) (hn16 : n ≤ 16) (a b t : Int) : turnL n.toNat (tonesL (tonesN n a b t)) = tonesN n a b (shiftI n t 0 true) := by
  have h64 : tonesN n a b t < 2 ^ 64 := Nat.lt_of_lt_of_le (tonesN_lt hn a b t) (Nat.pow_le_pow_right (by decide) (by omega))
  refine lt_of_bits (turnL_lt n.toNat (by omega) _) (tonesN_lt hn a b _) (fun y hy => ?_)
  rw [turnL_bit, tonesN_bit hn]
  unfold shiftI
  have e : (decide (n ≤ t) != true) = !decide (n ≤ t) := by cases decide (n ≤ t) <;> rfl
  rw [e]
  have neg : ∀ z : Int, (n - z % n) % n = (0 - z) % n := fun z => by
    rw [Int.sub_emod, Int.emod_self, Int.emod_emod_of_dvd _ (Int.dvd_refl n), Int.sub_emod 0 z, Int.zero_emod]
  constructor
  · rintro ⟨x, hx, hxy⟩
    obtain ⟨u, hu, hxu⟩ := (tonesN_bit hn a b t x).1 ((mem_tonesL _ h64 x).1 hx)
    have hxn := Int.emod_lt_of_pos (way n t t u) hn
    refine ⟨u, hu, ?_⟩
    rw [way_pos hn, ← hxy]
    have h1 : (((n.toNat - x) % n.toNat : Nat) : Int) = (n - x) % n := by
      rw [Int.natCast_emod, Int.natCast_sub (by omega), Int.toNat_of_nonneg (by omega)]
    rw [h1, hxu, neg, way_of]
    congr 1
    cases decide (n ≤ t) <;> simp <;> omega
  · rintro ⟨u, hu, hyu⟩
    rw [way_pos hn] at hyu
    have h0 := Int.emod_nonneg (way n t t u) (show n ≠ 0 by omega)
    have h1 := Int.emod_lt_of_pos (way n t t u) hn
    refine ⟨(way n t t u % n).toNat, (mem_tonesL _ h64 _).2 ((tonesN_bit hn a b t _).2 ⟨u, hu, Int.toNat_of_nonneg h0⟩), ?_⟩
    refine Int.ofNat.inj ?_
    have h2 : (((n.toNat - (way n t t u % n).toNat) % n.toNat : Nat) : Int) = (n - way n t t u % n) % n := by
      rw [Int.natCast_emod, Int.natCast_sub (by omega), Int.toNat_of_nonneg h0, Int.toNat_of_nonneg (show 0 ≤ n by omega)]
    refine Eq.trans h2 ?_
    rw [neg]
    refine Eq.trans ?_ hyu.symm
    rw [way_of]
    congr 1
    cases decide (n ≤ t) <;> simp <;> omega
def tri0 (n a b r : Nat) (d : Bool) : Nat := if d = true then 2 ^ r ||| 2 ^ ((r + n - a) % n) ||| 2 ^ ((r + n - b) % n) else 2 ^ r ||| 2 ^ ((r + a) % n) ||| 2 ^ ((r + b) % n)
def okKind (n a b : Nat) : Bool := Nat.ble 1 a && (Nat.blt a b && (Nat.blt b n && (!Nat.beq a (b - a) && (!Nat.beq a (n - b) && !Nat.beq (b - a) (n - b)))))
def apart0 (n a b : Nat) : Bool :=
  let x := tri0 n a b 0 false; let y := tri0 n a b 0 true
  (List.range n).all fun r => (Nat.beq r 0 || !Nat.beq x (tri0 n a b r false)) && (!Nat.beq x (tri0 n a b r true) && ((Nat.beq r 0 || !Nat.beq y (tri0 n a b r true)) && !Nat.beq y (tri0 n a b r false)))
def apartAll (n : Nat) : Bool := (List.range n).all fun a => (List.range n).all fun b => !okKind n a b || apart0 n a b
theorem apart_all : ((List.range 17).all apartAll) = true := by decide +kernel
theorem tonesN_tri0 {n a b : Nat} (hn : 0 < n) (ha : a < n) (hb : b < n) (r : Nat) (hr : r < n) (d : Bool) : tonesN (n : Int) a b (pos n d r) = tri0 n a b r d := by
  have hn' : (0 : Int) < n := by omega
  have key : ∀ (u : Nat), u < n → toneAt (n : Int) (pos n d r) u = if d = true then (r + n - u) % n else (r + u) % n := by
    intro u hu
    refine Int.ofNat.inj ?_
    refine Eq.trans (toneAt_int (n : Int) (pos n d r) u hn') ?_
    refine Eq.trans (show _ = way n (pos n d r) (pos n d r) u % n from rfl) ?_
    rw [way_pos hn']
    cases d with
    | true =>
      simp only [if_true]
      refine Eq.trans ?_ (show (((r + n - u : Nat) : Int) % (n : Int)) = _ from (Int.natCast_emod _ _).symm)
      rw [show ((r + n - u : Nat) : Int) = ((r : Int) - u) + n by omega, Int.add_emod_right]
    | false =>
      simp only [Bool.false_eq_true, if_false]
      exact (Int.natCast_emod (r + u) n).symm
  unfold tonesN tri0
  have k0 := key 0 hn
  rw [show (((0 : Nat) : Int)) = 0 from rfl] at k0
  rw [k0, key a ha, key b hb]
  cases d with
  | true => simp only [if_true]; rw [show (r + n - 0) % n = r by rw [Nat.sub_zero, Nat.add_mod_right, Nat.mod_eq_of_lt hr]]
  | false => simp only [Bool.false_eq_true, if_false]; rw [show (r + 0) % n = r by rw [Nat.add_zero, Nat.mod_eq_of_lt hr]]
theorem tri0_inj {n a b r : Nat} (hn : n ≤ 16) (hk : okKind n a b = true) (ha : a < n) (hb : b < n) (hr : r < n) {d e : Bool} (h : tri0 n a b 0 d = tri0 n a b r e) : d = e ∧ r = 0 := by
  have h1 := List.all_eq_true.1 apart_all n (List.mem_range.2 (by omega))
  have h2 := List.all_eq_true.1 (List.all_eq_true.1 h1 a (List.mem_range.2 ha)) b (List.mem_range.2 hb)
  rw [hk] at h2
  have h3 : apart0 n a b = true := by simpa using h2
  have h4 := List.all_eq_true.1 h3 r (List.mem_range.2 hr)
  simp only [Bool.and_eq_true, Bool.or_eq_true, Bool.not_eq_true'] at h4
  obtain ⟨g1, g2, g3, g4⟩ := h4
  have ne : ∀ {x y : Nat}, Nat.beq x y = false → x ≠ y := fun hx e => by rw [e] at hx; simp at hx
  cases d <;> cases e
  · exact ⟨rfl, Nat.eq_of_beq_eq_true (g1.resolve_right (fun g => ne g h))⟩
  · exact absurd h (ne g2)
  · exact absurd h (ne g4)
  · exact ⟨rfl, Nat.eq_of_beq_eq_true (g3.resolve_right (fun g => ne g h))⟩
theorem okKind_of {n a b : Nat} (hk : isKind n a b = true) : okKind n a b = true := by
  obtain ⟨h1, h2, h3, h4, h5, h6, h7, h8⟩ := of_decide_eq_true hk
  have ne : ∀ {x y : Nat}, x ≠ y → (!Nat.beq x y) = true := fun {x y} hx => by
    cases e : Nat.beq x y with
    | false => rfl
    | true => exact absurd (Nat.eq_of_beq_eq_true e) hx
  unfold okKind
  rw [ne (x := a) (y := b - a) (by omega), ne (x := a) (y := n - b) (by omega), ne (x := b - a) (y := n - b) (by omega)]
  simp [Nat.blt, Nat.ble_eq]
  omega
theorem tones_inj {n a b : Int} (hk : isKind n a b = true) {t u : Int} (ht : isTri n t = true) (hu : isTri n u = true) (h : tonesN n a b t = tonesN n a b u) : t = u := by
  obtain ⟨h1, h2, h3, h4, h5, _⟩ := of_decide_eq_true hk
  obtain ⟨ht0, ht1⟩ := of_decide_eq_true ht
  obtain ⟨hu0, hu1⟩ := of_decide_eq_true hu
  have hn : 0 < n := by omega
  have k0 := Int.emod_nonneg (-t) (show n ≠ 0 by omega)
  have k1 := Int.emod_lt_of_pos (-t) hn
  have e := congrArg (fun s => moved n.toNat s ((-t) % n).toNat) h
  simp only [moved_tones hn a b _ _ k0 k1] at e
  have hd : ∀ x : Bool, (x != false) = x := fun x => by cases x <;> rfl
  unfold shiftI at e
  rw [hd, hd] at e
  simp only [Bool.false_eq_true, if_false] at e
  obtain ⟨n', rfl⟩ := Int.eq_ofNat_of_zero_le (show 0 ≤ n by omega)
  obtain ⟨a', rfl⟩ := Int.eq_ofNat_of_zero_le (show 0 ≤ a by omega)
  obtain ⟨b', rfl⟩ := Int.eq_ofNat_of_zero_le (show 0 ≤ b by omega)
  have z : (t + (-t) % (n' : Int)) % (n' : Int) = 0 % (n' : Int) := by rw [Int.add_emod_emod, show t + -t = 0 by omega]
  have l0 := Int.emod_nonneg (u + (-t) % (n' : Int)) (show (n' : Int) ≠ 0 by omega)
  have l1 := Int.emod_lt_of_pos (u + (-t) % (n' : Int)) hn
  obtain ⟨r, hr⟩ := Int.eq_ofNat_of_zero_le l0
  have hrn : r < n' := by omega
  have zr : (u + (-t) % (n' : Int)) % (n' : Int) = (r : Int) % (n' : Int) := by rw [hr, Int.emod_eq_of_lt (by omega) (by omega)]
  rw [pos_congr _ z, pos_congr _ zr] at e
  rw [show (0 : Int) = ((0 : Nat) : Int) from rfl, tonesN_tri0 (by omega) (by omega) (by omega) 0 (by omega), tonesN_tri0 (by omega) (by omega) (by omega) r hrn] at e
  obtain ⟨e1, e2⟩ := tri0_inj (by omega) (okKind_of hk) (by omega) (by omega) hrn e
  subst e2
  rw [← pos_of ht0 ht1, ← pos_of hu0 hu1, e1]
  refine pos_congr _ ?_
  have z2 : (u + (-t) % (n' : Int)) % (n' : Int) = 0 := by rw [hr]; rfl
  rw [Int.add_emod_emod] at z2
  have z3 : (n' : Int) ∣ u - t := Int.dvd_of_emod_eq_zero (by rw [Int.sub_eq_add_neg]; exact z2)
  exact (Int.emod_emod_of_dvd t (Int.dvd_refl _)).symm.trans (by
    have := Int.emod_eq_emod_iff_emod_sub_eq_zero.2 (Int.emod_eq_zero_of_dvd z3)
    rw [Int.emod_emod_of_dvd t (Int.dvd_refl _)]
    exact this.symm)
theorem compact_nodup : ∀ {l : List Int}, l.Nodup → Lib.compact l = l := by
  intro l hl
  unfold Lib.compact Lib.compactUpTo
  have hk : (List.range l.length).filter (Lib.keeps l.toArray) = List.range l.length := by
    refine List.filter_eq_self.2 (fun m hm => ?_)
    have hml := List.mem_range.1 hm
    by_cases h0 : m = 0
    · subst h0; exact Lib.keeps_lt_one _ 0 (by omega)
    · refine Lib.keeps_pos ?_
      have g1 : l.toArray[m]! = l[m] := by simp [hml]
      have g2 : l.toArray[m - 1]! = l[m - 1]'(by omega) := by simp [show m - 1 < l.length by omega]
      rw [g1, g2]
      intro e
      have := (List.getElem_inj hl).1 e
      omega
  rw [hk]
  refine List.ext_getElem (by simp) (fun i h1 h2 => ?_)
  simp [h2]
end Go.Proofs.YtolnpamjkhbgeaaDoor.Chord
end

section
namespace Go.Proofs.YtolnpamjkhbgeaaDoor.Pure
open Go.RowKit Go.Proofs.YtolnpamjkhbgeaaDoor.P Go.Proofs.YtolnpamjkhbgeaaDoorW.PrintWords Go.Proofs.YtolnpamjkhbgeaaDoorW.PrintLast Go.Proofs.YtolnpamjkhbgeaaDoorW.PrintMore
open Go.Proofs.YtolnpamjkhbgeaaDoor.Kit Go.Proofs.YtolnpamjkhbgeaaDoor.Base Go.Proofs.YtolnpamjkhbgeaaDoor.Tri Go.Proofs.YtolnpamjkhbgeaaDoor.Chord Go.Proofs.YtolnpamjkhbgeaaDoor.Bits
theorem p16 {n : Nat} (hn : n ≤ 16) {s : Nat} (hs : s < 2 ^ n) : s < 65536 := Nat.lt_of_lt_of_le hs (Nat.pow_le_pow_right (by decide) hn : 2 ^ n ≤ 2 ^ 16)
theorem wrap_pow {n : Nat} (hn : n ≤ 16) : wrap64 (2 ^ min n 64) = ((2 ^ n : Nat) : Int) := by
  have h1 : 2 ^ n ≤ 2 ^ 16 := Nat.pow_le_pow_right (by decide) hn
  rw [show min n 64 = n by omega, show (2 : Int) ^ n = ((2 ^ n : Nat) : Int) by simp]
  generalize 2 ^ n = z at h1
  exact w64 (by omega) (by omega)
theorem chord_valid {n s : Nat} (h2 : 2 ≤ n) (hn : n ≤ 16) (hs : s < 2 ^ n) : chords_circle_valid.f (n : Int) [(s : Int)] = some true := by
  unfold chords_circle_valid.f
  have : notChord (n : Int) (s : Int) = false := by
    unfold notChord
    rw [Int.toNat_natCast, wrap_pow hn, decide_eq_false (by omega), decide_eq_false (by omega)]
    rfl
  rw [List.any_cons, this, decide_eq_true (by omega), decide_eq_true (by omega)]
  rfl
theorem move_f {n s : Nat} (h2 : 2 ≤ n) (hn : n ≤ 16) (hs : s < 2 ^ n) (k : Int) : chords_circle_move.f (n : Int) (s : Int) k = some ((moved n s (k % (n : Int)).toNat : Nat) : Int) := by
  have hn0 : (0 : Int) < n := by omega
  have ts := tmod_small k (n : Int) hn0
  have e0 := Int.emod_nonneg k (show (n : Int) ≠ 0 by omega)
  have e1 := Int.emod_lt_of_pos k hn0
  unfold chords_circle_move.f
  rw [w64 (x := Int.tmod k n + n) (by omega) (by omega), tm k n hn0]
  obtain ⟨m, hm⟩ := Int.eq_ofNat_of_zero_le e0
  rw [hm]
  have hm2 : m < n := by omega
  rw [w64 (x := (n : Int) - (m : Int)) (by omega) (by omega), if_neg (by omega), if_pos (by omega), if_pos (by omega), if_pos (by omega)]
  have hp := p16 hn hs
  have hle : s * 2 ^ m < 2 ^ 62 := by
    have h1 : (2 : Nat) ^ m ≤ 2 ^ 16 := Nat.pow_le_pow_right (by decide) (by omega)
    have h3 : s * 2 ^ m ≤ 65536 * 2 ^ 16 := Nat.mul_le_mul (by omega) h1
    exact Nat.lt_of_le_of_lt h3 (by decide)
  rw [show (n : Int) - (m : Int) = ((n - m : Nat) : Int) by omega, shl_nat s m (by omega) hle, shr_nat s (n - m) (by omega), or_nat _ _ hle (Nat.lt_of_le_of_lt (Nat.div_le_self _ _) (by omega))]
  have hpn : 2 ^ n ≤ 2 ^ 16 := Nat.pow_le_pow_right (by decide) hn
  have h2n := Nat.two_pow_pos n
  rw [shl_n (by omega) (by omega), Int.toNat_natCast, w64 (x := ((2 ^ n : Nat) : Int) - 1) (by omega) (by omega), show ((2 ^ n : Nat) : Int) - 1 = ((2 ^ n - 1 : Nat) : Int) by omega,
    and_nat _ _ (or_lt62 hle (Nat.lt_of_le_of_lt (Nat.div_le_self _ _) (by omega))) (by omega), Int.toNat_natCast]
  rfl
theorem turn_f {n s : Nat} (h2 : 2 ≤ n) (hn : n ≤ 16) (hs : s < 2 ^ n) : chords_circle_turn.f (n : Int) (s : Int) = some ((turnL n (tonesL s) : Nat) : Int) := by
  unfold chords_circle_turn.f
  have h : (s : Int) < 2 ^ n := by
    have : ((2 ^ n : Nat) : Int) = (2 : Int) ^ n := by simp
    rw [← this]; omega
  rw [if_pos ⟨by omega, by omega, by omega, by rw [Int.toNat_natCast]; exact h⟩, Int.toNat_natCast, Int.toNat_natCast]
theorem index_f (l : List Int) (hl : l.length < 4611686018427387904) (x : Int) : ∀ (d i : Nat), i + d = l.length → x ∈ l.drop i → ∃ r : Int, 0 ≤ r ∧ Ev (fun k => slices_Index_int_int.l0 k l x (l.length : Int) (i : Int)) r
  | 0, i, h, hx => by rw [List.drop_eq_nil_of_le (by omega)] at hx; cases hx
  | d + 1, i, h, hx => by
    have hi : i < l.length := by omega
    rw [List.drop_eq_getElem_cons hi] at hx
    by_cases e : x = l[i]
    · refine ⟨i, by omega, Ev.done fun k => ?_⟩
      simp only [slices_Index_int_int.l0]
      have : rd l (i : Int) = l[i] := by unfold rd; rw [Int.toNat_natCast]; simp [hi]
      rw [if_pos (by omega), if_pos (by omega), if_pos (by omega), this, if_pos e]
    · obtain ⟨r, hr, hv⟩ := index_f l hl x d (i + 1) (by omega) ((List.mem_cons.1 hx).resolve_left e)
      refine ⟨r, hr, Ev.step (f := fun k => slices_Index_int_int.l0 k l x (l.length : Int) ((i + 1 : Nat) : Int)) (fun k => ?_) hv⟩
      simp only [slices_Index_int_int.l0]
      have : rd l (i : Int) = l[i] := by unfold rd; rw [Int.toNat_natCast]; simp [hi]
      rw [if_pos (by omega), if_pos (by omega), if_pos (by omega), this, if_neg e, w64 (x := (i : Int) + 1) (by omega) (by omega)]
      rfl
theorem contains_f (l : List Int) (hl : l.length < 4611686018427387904) (x : Int) (hx : x ∈ l) : Ev (fun k => slices_Contains_int_int.f k l x) true := by
  obtain ⟨r, hr, hv⟩ := index_f l hl x l.length 0 (by omega) (by simpa using hx)
  have := Ev.bind (f := fun _ t => some (decide (t ≥ (0 : Int)))) hv (by rw [decide_eq_true (show r ≥ 0 from hr)]; exact Ev.now true)
  exact this
/-- The images of a chord, from k on. -/
def outFrom (n s : Nat) (k d : Nat) : List Int := (List.range' k d).flatMap fun k => [((moved n s k : Nat) : Int), ((moved n (turnL n (tonesL s)) k : Nat) : Int)]
theorem images_l0 {n s : Nat} (h2 : 2 ≤ n) (hn : n ≤ 16) (hs : s < 2 ^ n) : ∀ (d j : Nat) (acc : List Int), j + d = n → acc.length = 2 * j → Ev (fun k => chords_circle_images.l0 k (n : Int) (s : Int) acc (n : Int) (j : Int)) (Lib.compact (Slices.sorted (acc ++ outFrom n s j d)))
  | 0, j, acc, h, hl => by
    refine Ev.done fun k => ?_
    simp only [chords_circle_images.l0]
    rw [if_neg (by omega)]
    unfold slices_Sort_int_int.f slices_Compact_int_int.f
    rw [if_pos (by omega)]
    simp [outFrom]
  | d + 1, j, acc, h, hl => by
    have ht : turnL n (tonesL s) < 2 ^ n := turnL_lt n (by omega) _
    refine Ev.step (f := fun k => chords_circle_images.l0 k (n : Int) (s : Int) (acc ++ [((moved n s j : Nat) : Int), ((moved n (turnL n (tonesL s)) j : Nat) : Int)]) (n : Int) ((j + 1 : Nat) : Int)) (fun k => ?_) ?_
    · simp only [chords_circle_images.l0]
      rw [if_pos (by omega), move_f h2 hn hs]
      simp only [Option.bind_some, turn_f h2 hn hs, move_f h2 hn ht]
      have hj : ((j : Int) % (n : Int)).toNat = j := by rw [Int.emod_eq_of_lt (by omega) (by omega), Int.toNat_natCast]
      rw [if_pos (by simp; omega), hj, w64 (x := (j : Int) + 1) (by omega) (by omega)]
      rfl
    · have := images_l0 h2 hn hs d (j + 1) (acc ++ [((moved n s j : Nat) : Int), ((moved n (turnL n (tonesL s)) j : Nat) : Int)]) (by omega) (by simp; omega)
      rw [List.append_assoc] at this
      exact this
theorem class_f {n s : Nat} (h2 : 2 ≤ n) (hn : n ≤ 16) (hs : s < 2 ^ n) : Ev (fun k => chords_Class.f k (n : Int) (s : Int)) (Lib.compact (Slices.sorted (outFrom n s 0 n)), 0) := by
  unfold chords_Class.f
  rw [chord_valid h2 hn hs]
  simp only [Option.bind_some, if_true]
  unfold chords_circle_images.f
  exact Ev.bind (f := fun _ t => some (t, (0 : Int))) (images_l0 h2 hn hs n 0 [] (by omega) rfl) (Ev.now _)
/-- The triads that a triad's moves and turns lead to, from k on. -/
def idx (n t : Int) (m : Nat) : List Int := (List.range' 0 m).flatMap fun (k : Nat) => [shiftI n t k false, shiftI n t k true]
theorem out_idx {n : Nat} (hn0 : 0 < n) (hn : n ≤ 16) (a b t : Int) : outFrom n (tonesN (n : Int) a b t) 0 n = (idx (n : Int) t n).map fun u => ((tonesN (n : Int) a b u : Nat) : Int) := by
  unfold outFrom idx
  rw [List.map_flatMap]
  have congr_ : ∀ {l : List Nat} {f g : Nat → List Int}, (∀ k ∈ l, f k = g k) → l.flatMap f = l.flatMap g := by
    intro l f g h
    rw [List.flatMap_def, List.flatMap_def, List.map_congr_left h]
  refine congr_ (fun k hk => ?_)
  have hkn : k < n := by have := List.mem_range'_1.1 hk; omega
  have hn' : (0 : Int) < n := by omega
  have h1 := moved_tones hn' a b t k (by omega) (by omega)
  have h2 := turned_tones hn' (by omega) a b t
  have h3 := moved_tones hn' a b (shiftI n t 0 true) k (by omega) (by omega)
  rw [Int.toNat_natCast, Int.toNat_natCast] at h1 h3
  rw [Int.toNat_natCast] at h2
  have h4 : shiftI (n : Int) (shiftI n t 0 true) k false = shiftI n t k true := by
    conv => lhs; rw [show shiftI (n : Int) t 0 true = pos n (decide ((n : Int) ≤ t) != true) (0 - t) from rfl]
    rw [shift_pos hn']
    unfold shiftI
    cases decide ((n : Int) ≤ t) <;> simp <;> congr 1 <;> omega
  rw [h2, h3, h1, h4]
  rfl
theorem shift_inj {n : Int} (hn : 0 < n) (t : Int) {k m : Int} {d e : Bool} (hk0 : 0 ≤ k) (hk : k < n) (hm0 : 0 ≤ m) (hm : m < n) (h : shiftI n t k d = shiftI n t m e) : k = m ∧ d = e := by
  unfold shiftI at h
  obtain ⟨h1, h2⟩ := (pos_inj hn).1 h
  have hde : d = e := by revert h1; cases decide (n ≤ t) <;> cases d <;> cases e <;> simp
  subst hde
  refine ⟨?_, rfl⟩
  have h3 : k % n = m % n := by
    cases d with
    | true =>
      simp only [if_true] at h2
      have := emod_add_congr h2 t
      rwa [show k - t + t = k by omega, show m - t + t = m by omega] at this
    | false =>
      simp only [Bool.false_eq_true, if_false] at h2
      have := emod_sub_congr h2 t
      rwa [show t + k - t = k by omega, show t + m - t = m by omega] at this
  rwa [Int.emod_eq_of_lt hk0 hk, Int.emod_eq_of_lt hm0 hm] at h3
theorem idx_nodup {n : Nat} (hn : 0 < n) (t : Int) : (idx (n : Int) t n).Nodup := by
  have hn' : (0 : Int) < n := by omega
  refine List.pairwise_flatMap.2 ⟨fun k hk => ?_, ?_⟩
  · have hkn : k < n := by have := List.mem_range'_1.1 hk; omega
    refine List.pairwise_pair.2 (fun e => ?_)
    have := (shift_inj hn' t (by omega) (by omega) (by omega) (by omega) e).2
    cases this
  · refine List.Pairwise.imp_of_mem ?_ (List.nodup_range' (s := 0) (n := n))
    intro k m hk hm hkm x hx y hy e
    have hkn : k < n := by have := List.mem_range'_1.1 hk; omega
    have hmn : m < n := by have := List.mem_range'_1.1 hm; omega
    have key : ∀ d d' : Bool, shiftI (n : Int) t k d ≠ shiftI n t m d' := fun d d' e => hkm (by
      have := (shift_inj hn' t (by omega) (by omega) (by omega) (by omega) e).1
      omega)
    simp only [List.mem_cons, List.not_mem_nil, or_false] at hx hy
    rcases hx with rfl | rfl <;> rcases hy with rfl | rfl <;> exact key _ _ e
theorem idx_length (n t : Int) (m : Nat) : (idx n t m).length = 2 * m := by
  unfold idx
  rw [List.length_flatMap]
  simp only [List.length_cons, List.length_nil, Nat.reduceAdd, List.map_const']
  rw [List.length_range', List.sum_replicate_nat, Nat.mul_comm]
theorem idx_range {n : Nat} (hn : 0 < n) (t : Int) : ∀ u ∈ idx (n : Int) t n, isTri (n : Int) u = true := by
  intro u hu
  obtain ⟨k, _, hk⟩ := List.mem_flatMap.1 hu
  have hn' : (0 : Int) < n := by omega
  simp only [List.mem_cons, List.not_mem_nil, or_false] at hk
  rcases hk with rfl | rfl <;> exact decide_eq_true (shift_range hn' _ _ _)
theorem idx_all {n : Nat} (hn : 0 < n) (t u : Int) (hu : isTri (n : Int) u = true) : u ∈ idx (n : Int) t n := by
  have hn' : (0 : Int) < n := by omega
  obtain ⟨h0, h1⟩ := of_decide_eq_true hu
  obtain ⟨d, hd⟩ : ∃ d : Bool, (decide ((n : Int) ≤ t) != d) = decide ((n : Int) ≤ u) := ⟨decide ((n : Int) ≤ t) != decide ((n : Int) ≤ u), by cases decide ((n : Int) ≤ t) <;> cases decide ((n : Int) ≤ u) <;> rfl⟩
  obtain ⟨z, hz⟩ : ∃ z : Int, z = if d = true then u + t else u - t := ⟨_, rfl⟩
  have e0 := Int.emod_nonneg z (show (n : Int) ≠ 0 by omega)
  have e1 := Int.emod_lt_of_pos z hn'
  have hs : shiftI (n : Int) t (((z % n).toNat : Nat) : Int) d = u := by
    rw [Int.toNat_of_nonneg e0, shift_mod]
    unfold shiftI
    rw [hd]
    conv => rhs; rw [← pos_of h0 h1]
    refine pos_congr _ ?_
    rw [hz]
    cases d with
    | true => simp
    | false => simp only [Bool.false_eq_true, if_false]; rw [show t + (u - t) = u by omega]
  refine List.mem_flatMap.2 ⟨(z % n).toNat, List.mem_range'_1.2 ⟨by omega, by omega⟩, ?_⟩
  simp only [List.mem_cons, List.not_mem_nil, or_false]
  cases d with
  | true => exact .inr hs.symm
  | false => exact .inl hs.symm
theorem class_tones {n : Nat} {a b : Int} (hk : isKind (n : Int) a b = true) (t : Int) :
    (Lib.compact (Slices.sorted (outFrom n (tonesN (n : Int) a b t) 0 n))).length = 2 * n ∧ ∀ u, isTri (n : Int) u = true → ((tonesN (n : Int) a b u : Nat) : Int) ∈ Lib.compact (Slices.sorted (outFrom n (tonesN (n : Int) a b t) 0 n)) := by
  obtain ⟨h1, h2, h3⟩ := of_decide_eq_true hk
  have hp : (Slices.sorted (outFrom n (tonesN (n : Int) a b t) 0 n)).Perm (outFrom n (tonesN (n : Int) a b t) 0 n) := List.mergeSort_perm _ _
  have ho := out_idx (show 0 < n by omega) (by omega) a b t
  have hnd : (outFrom n (tonesN (n : Int) a b t) 0 n).Nodup := by
    rw [ho]
    refine List.pairwise_map.2 (List.Pairwise.imp_of_mem ?_ (idx_nodup (show 0 < n by omega) t))
    intro u v hu hv huv e
    exact huv (tones_inj hk (idx_range (by omega) t u hu) (idx_range (by omega) t v hv) (Int.ofNat.inj e))
  rw [compact_nodup (hp.nodup_iff.2 hnd)]
  refine ⟨by rw [hp.length_eq, ho, List.length_map, idx_length], fun u hu => ?_⟩
  rw [hp.mem_iff, ho]
  exact List.mem_map.2 ⟨u, idx_all (by omega) t u hu, rfl⟩
theorem findT_tones {n a b : Int} (hk : isKind n a b = true) (u : Int) (hu : isTri n u = true) : ∀ (d : Nat) (t : Int), 0 ≤ t → t ≤ u → t + d = 2 * n → findT n a b ((tonesN n a b u : Nat) : Int) d t = (u, 0)
  | 0, t, h0, h1, h => by obtain ⟨g0, g1⟩ := of_decide_eq_true hu; omega
  | d + 1, t, h0, h1, h => by
    obtain ⟨g0, g1⟩ := of_decide_eq_true hu
    unfold findT
    by_cases e : t = u
    · subst e; rw [if_pos rfl]
    · rw [if_neg (fun e2 : ((tonesN n a b t : Nat) : Int) = ((tonesN n a b u : Nat) : Int) => e (tones_inj hk (tri_of h0 (by omega)) hu (Int.ofNat.inj e2)))]
      exact findT_tones hk u hu d (t + 1) (by omega) (by omega) (by omega)
theorem steps_f : sackbuttop_steps.f = some true := by decide +kernel
theorem rTriad_f {n : Int} (a b t : Int) (h1 : 5 ≤ n) (h2 : n ≤ 16) : sackbutref04_Triad.f n a b t = some (isTri n t) := by
  unfold sackbutref04_Triad.f isTri
  rw [w64 (x := 2 * n) (by omega) (by omega)]
  by_cases c : t ≥ 0
  · rw [if_pos c]; congr 1; exact decide_eq_decide.2 ⟨fun h => ⟨c, h⟩, fun h => h.2⟩
  · rw [if_neg c]; congr 1; exact (decide_eq_false (fun h => c h.1)).symm
theorem move_ok {n s : Nat} (h2 : 2 ≤ n) (hn : n ≤ 16) (hs : s < 2 ^ n) (k : Int) : chords_Move.f (n : Int) (s : Int) k = some (((moved n s (k % (n : Int)).toNat : Nat) : Int), 0) := by
  unfold chords_Move.f
  rw [chord_valid h2 hn hs]
  simp only [Option.bind_some, if_true, move_f h2 hn hs]
theorem turn_ok {n s : Nat} (h2 : 2 ≤ n) (hn : n ≤ 16) (hs : s < 2 ^ n) : chords_Turn.f (n : Int) (s : Int) = some (((turnL n (tonesL s) : Nat) : Int), 0) := by
  unfold chords_Turn.f
  rw [chord_valid h2 hn hs]
  simp only [Option.bind_some, if_true, turn_f h2 hn hs]
theorem loop_ok {n : Nat} {a b : Int} (hn : Int64 (n : Int)) (ha : Int64 a) (hb : Int64 b) (hk : isKind (n : Int) a b = true) (t : Int) (ht : isTri (n : Int) t = true) (q : Int) (turned : Bool) (cl : List Int) (hcl : cl.length < 100) (hall : ∀ u, isTri (n : Int) u = true → ((tonesN (n : Int) a b u : Nat) : Int) ∈ cl) :
    ∀ (d : Nat) (j : Int), 0 ≤ j → j + d = 2 * (n : Int) → Ev (fun k => sackbuttop_TopTriads.l0 k t q turned ((tonesN (n : Int) a b t : Nat) : Int) cl (2 * (n : Int)) j n a b) true
  | 0, j, h0, h => by
    obtain ⟨h1, h2, h3⟩ := of_decide_eq_true hk
    have hn0 : (0 : Int) < n := by omega
    have hu : IntKind.u64.wrap (n : Int) = (n : Int) := by rw [IntKind.wrap_u64]; omega
    have hq0 : 0 ≤ IntKind.u64.wrap q := by rw [IntKind.wrap_u64]; omega
    obtain ⟨z, hz⟩ : ∃ z, z = IntKind.u64.wrap q % (n : Int) := ⟨_, rfl⟩
    have z0 : 0 ≤ z := by rw [hz]; exact Int.emod_nonneg _ (by omega)
    have z1 : z < n := by rw [hz]; exact Int.emod_lt_of_pos _ hn0
    have hw : wrap64 (Int.tmod (IntKind.u64.wrap q) (n : Int)) = z := by rw [Int.tmod_eq_emod_of_nonneg hq0, ← hz]; exact w64 (by omega) (by omega)
    have hs := tonesN_lt hn0 a b t
    rw [Int.toNat_natCast] at hs
    have hsr := shift_range hn0 t z turned
    have hT := Tones_f (a := a) (b := b) (shiftI (n : Int) t z turned) hn ha hb
    rw [hk, tri_of hsr.1 hsr.2] at hT
    simp only [Bool.and_self, if_true] at hT
    refine Ev.step (f := fun k => (triads_Tones.f k (n : Int) a b (shiftI (n : Int) t z turned)).bind fun bt216 => if bt216.2 = 0 then (if bt216.1 = ((tonesN (n : Int) a b (shiftI (n : Int) t z turned) : Nat) : Int) then some true else some false) else some false) (fun k => ?_) ?_
    · simp only [sackbuttop_TopTriads.l0]
      rw [if_neg (by omega), hu, if_neg (by omega), hw]
      unfold sackbuttop_kind.f
      simp only [Option.bind_some]
      rw [shift_f t z turned hn ha hb, hk, ht]
      simp only [Bool.and_self, if_true, Option.bind_some, steps_f]
      have hmz : z.toNat = (z % (n : Int)).toNat := by rw [Int.emod_eq_of_lt z0 z1]
      cases turned with
      | true =>
        simp only [if_true]
        rw [turn_ok (by omega) (by omega) hs]
        simp only [Option.bind_some]
        rw [move_ok (by omega) (by omega) (turnL_lt n (by omega) _)]
        simp only [Option.bind_some, if_true]
        have e1 := turned_tones hn0 (by omega) a b t
        rw [Int.toNat_natCast] at e1
        have e2 := moved_tones hn0 a b (shiftI (n : Int) t 0 true) z z0 z1
        rw [Int.toNat_natCast] at e2
        have e3 : shiftI (n : Int) (shiftI n t 0 true) z false = shiftI n t z true := by
          conv => lhs; rw [show shiftI (n : Int) t 0 true = pos n (decide ((n : Int) ≤ t) != true) (0 - t) from rfl]
          rw [shift_pos hn0]
          unfold shiftI
          cases decide ((n : Int) ≤ t) <;> simp <;> congr 1 <;> omega
        rw [e1, ← hmz, e2, e3]
      | false =>
        simp only [Bool.false_eq_true, if_false]
        rw [move_ok (by omega) (by omega) hs]
        simp only [Option.bind_some, if_true]
        have e2 := moved_tones hn0 a b t z z0 z1
        rw [Int.toNat_natCast] at e2
        rw [← hmz, e2]
    · refine Ev.bind (f := fun _ (bt216 : Int × Int) => if bt216.2 = 0 then (if bt216.1 = ((tonesN (n : Int) a b (shiftI (n : Int) t z turned) : Nat) : Int) then some true else some false) else some false) hT ?_
      simp only [if_true]
      exact Ev.now true
  | d + 1, j, h0, h => by
    obtain ⟨h1, h2, h3⟩ := of_decide_eq_true hk
    have hn0 : (0 : Int) < n := by omega
    have hj : isTri (n : Int) j = true := tri_of h0 (by omega)
    have hT := Tones_f (a := a) (b := b) j hn ha hb
    rw [hk, hj] at hT
    simp only [Bool.and_self, if_true] at hT
    have hlt := tonesN_lt hn0 a b j
    rw [Int.toNat_natCast] at hlt
    have hF := find_f ((tonesN (n : Int) a b j : Nat) : Int) hn ha hb
    have hv : findV (n : Int) a b ((tonesN (n : Int) a b j : Nat) : Int) = (j, 0) := by
      unfold findV
      rw [if_pos ⟨hk, by omega, by rw [Int.toNat_natCast]; omega⟩]
      exact findT_tones hk j hj _ 0 (by omega) h0 (by omega)
    rw [hv] at hF
    have hC := contains_f cl (by omega) _ (hall j hj)
    have hL := loop_ok hn ha hb hk t ht q turned cl hcl hall d (j + 1) (by omega) (by omega)
    refine Ev.step (f := fun k => (triads_Tones.f k (n : Int) a b j).bind fun bt200 => (triads_Find.f k (n : Int) a b bt200.1).bind fun bt205 => if bt200.2 = 0 then (if bt205.2 = 0 then (if bt205.1 = j then ((slices_Contains_int_int.f k cl bt200.1).bind fun t207 => (if t207 = true then (sackbuttop_TopTriads.l0 k t q turned ((tonesN (n : Int) a b t : Nat) : Int) cl (2 * (n : Int)) (j + 1) n a b) else (some false))) else (some false)) else (some false)) else (some false)) (fun k => ?_) ?_
    · simp only [sackbuttop_TopTriads.l0]
      rw [if_pos (by omega), w64 (x := j + 1) (by omega) (by omega)]
      unfold sackbuttop_kind.f
      simp only [Option.bind_some]
    · refine Ev.bind (f := fun k (bt200 : Int × Int) => (triads_Find.f k (n : Int) a b bt200.1).bind fun bt205 => if bt200.2 = 0 then (if bt205.2 = 0 then (if bt205.1 = j then ((slices_Contains_int_int.f k cl bt200.1).bind fun t207 => (if t207 = true then (sackbuttop_TopTriads.l0 k t q turned ((tonesN (n : Int) a b t : Nat) : Int) cl (2 * (n : Int)) (j + 1) n a b) else (some false))) else (some false)) else (some false)) else (some false)) hT ?_
      refine Ev.bind (f := fun k (bt205 : Int × Int) => if (0 : Int) = 0 then (if bt205.2 = 0 then (if bt205.1 = j then ((slices_Contains_int_int.f k cl ((tonesN (n : Int) a b j : Nat) : Int)).bind fun t207 => (if t207 = true then (sackbuttop_TopTriads.l0 k t q turned ((tonesN (n : Int) a b t : Nat) : Int) cl (2 * (n : Int)) (j + 1) n a b) else (some false))) else (some false)) else (some false)) else (some false)) hF ?_
      simp only [if_true]
      refine Ev.bind (f := fun k (t207 : Bool) => (if t207 = true then (sackbuttop_TopTriads.l0 k t q turned ((tonesN (n : Int) a b t : Nat) : Int) cl (2 * (n : Int)) (j + 1) n a b) else (some false))) hC ?_
      simp only [if_true]
      exact hL
theorem TopTriads (a0 a1 a2 b1 b2 : Int) (b3 : Bool) (w0 : (Lit.int .i64 a0).wf = true) (w1 : (Lit.int .i64 a1).wf = true) (w2 : (Lit.int .i64 a2).wf = true) (_wb1 : (Lit.int .i64 b1).wf = true) (_wb2 : (Lit.int .i64 b2).wf = true) : ∃ k, P.sackbuttop_TopTriads.f k a0 a1 a2 b1 b2 b3 = some true := by
  have hn := int64_of w0
  have ha := int64_of w1
  have hb := int64_of w2
  refine Ev.rounds ?_
  unfold P.sackbuttop_TopTriads.f
  rw [rValid_f a0 a1 a2 hn ha hb]
  simp only [Option.bind_some]
  have bad : (isKind a0 a1 a2 && isTri a0 b1) = false → Ev (fun k => P.sackbuttop_TopTriads.j0 k b1 b2 b3 true a0 a1 a2) true := by
    intro hbad
    have hT := Tones_f (n := a0) (a := a1) (b := a2) b1 hn ha hb
    rw [hbad] at hT
    simp only [Bool.false_eq_true, if_false] at hT
    refine Ev.step (f := fun k => (triads_Tones.f k a0 a1 a2 b1).bind fun bt185 => (if bt185.2 = 2 then some true else (some false))) (fun k => ?_) ?_
    · simp only [P.sackbuttop_TopTriads.j0, if_true]
      unfold sackbuttop_kind.f
      simp only [Option.bind_some, steps_f]
    · refine Ev.bind (f := fun _ (bt185 : Int × Int) => (if bt185.2 = 2 then some true else (some false))) hT ?_
      simp only [if_true]
      exact Ev.now true
  cases hk : isKind a0 a1 a2 with
  | false =>
    simp only [Bool.false_eq_true, if_false]
    exact bad (by rw [hk]; rfl)
  | true =>
    obtain ⟨h1, h2, h3⟩ := of_decide_eq_true hk
    simp only [if_true]
    rw [rTriad_f a1 a2 b1 h1 h2]
    simp only [Option.bind_some]
    cases ht : isTri a0 b1 with
    | false => exact bad (by rw [hk, ht]; rfl)
    | true =>
      obtain ⟨n, rfl⟩ := Int.eq_ofNat_of_zero_le (show 0 ≤ a0 by omega)
      have hn0 : (0 : Int) < n := by omega
      have hT := Tones_f (n := (n : Int)) (a := a1) (b := a2) b1 hn ha hb
      rw [hk, ht] at hT
      simp only [Bool.and_self, if_true] at hT
      have hs := tonesN_lt hn0 a1 a2 b1
      rw [Int.toNat_natCast] at hs
      have hC := class_f (show 2 ≤ n by omega) (show n ≤ 16 by omega) hs
      obtain ⟨hlen, hall⟩ := class_tones hk b1
      generalize Lib.compact (Slices.sorted (outFrom n (tonesN (n : Int) a1 a2 b1) 0 n)) = cl at hC hlen hall
      have hL := loop_ok hn ha hb hk b1 ht b2 b3 cl (by omega) hall (2 * n) 0 (by omega) (by omega)
      have hJ : Ev (fun k => P.sackbuttop_TopTriads.j1 k b1 b2 b3 ((tonesN (n : Int) a1 a2 b1 : Nat) : Int) cl ((cl.length : Int) != (wrap64 (2 * (n : Int)))) n a1 a2) true := by
        refine Ev.step (f := fun k => P.sackbuttop_TopTriads.l0 k b1 b2 b3 ((tonesN (n : Int) a1 a2 b1 : Nat) : Int) cl (2 * (n : Int)) 0 n a1 a2) (fun k => ?_) hL
        simp only [P.sackbuttop_TopTriads.j1]
        have hw : wrap64 (2 * (n : Int)) = 2 * (n : Int) := w64 (by omega) (by omega)
        have : ((cl.length : Int) != 2 * (n : Int)) = false := bne_eq_false_iff_eq.2 (by omega)
        rw [hw, this]
        simp only [Bool.false_eq_true, if_false]
      refine Ev.step (f := fun k => (triads_Tones.f k (n : Int) a1 a2 b1).bind fun bt191 => ((chords_Class.f k (n : Int) bt191.1).bind fun bt193 => (if bt191.2 = 0 then (if bt193.2 = 0 then (P.sackbuttop_TopTriads.j1 k b1 b2 b3 bt191.1 bt193.1 ((bt193.1.length : Int) != (wrap64 (2 * (n : Int)))) n a1 a2) else (P.sackbuttop_TopTriads.j1 k b1 b2 b3 bt191.1 bt193.1 true n a1 a2)) else (P.sackbuttop_TopTriads.j1 k b1 b2 b3 bt191.1 bt193.1 true n a1 a2)))) (fun k => ?_) ?_
      · simp only [P.sackbuttop_TopTriads.j0, Bool.not_true, Bool.false_eq_true, if_false]
        unfold sackbuttop_kind.f
        simp only [Option.bind_some]
      · refine Ev.bind (f := fun k (bt191 : Int × Int) => ((chords_Class.f k (n : Int) bt191.1).bind fun bt193 => (if bt191.2 = 0 then (if bt193.2 = 0 then (P.sackbuttop_TopTriads.j1 k b1 b2 b3 bt191.1 bt193.1 ((bt193.1.length : Int) != (wrap64 (2 * (n : Int)))) n a1 a2) else (P.sackbuttop_TopTriads.j1 k b1 b2 b3 bt191.1 bt193.1 true n a1 a2)) else (P.sackbuttop_TopTriads.j1 k b1 b2 b3 bt191.1 bt193.1 true n a1 a2)))) hT ?_
        refine Ev.bind (f := fun k (bt193 : List Int × Int) => (if (0 : Int) = 0 then (if bt193.2 = 0 then (P.sackbuttop_TopTriads.j1 k b1 b2 b3 ((tonesN (n : Int) a1 a2 b1 : Nat) : Int) bt193.1 ((bt193.1.length : Int) != (wrap64 (2 * (n : Int)))) n a1 a2) else (P.sackbuttop_TopTriads.j1 k b1 b2 b3 ((tonesN (n : Int) a1 a2 b1 : Nat) : Int) bt193.1 true n a1 a2)) else (P.sackbuttop_TopTriads.j1 k b1 b2 b3 ((tonesN (n : Int) a1 a2 b1 : Nat) : Int) bt193.1 true n a1 a2))) hC ?_
        simp only [if_true]
        exact hJ
end Go.Proofs.YtolnpamjkhbgeaaDoor.Pure
end
