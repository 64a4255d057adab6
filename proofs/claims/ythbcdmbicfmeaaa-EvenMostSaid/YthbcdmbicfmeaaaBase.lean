/- What the functions read, Tones, Scale, Part, awake of the program and of the reference compute, told by plain functions on natural numbers. -/
import Derived.Test.YthbcdmbicfmeaaaP1
import Derived.Test.YthbcdmbicfmeaaaP2
import Derived.Test.YthbcdmbicfmeaaaKit
namespace Go.Proofs.Ythbcdmbicfmeaaa.Base
open Go.RowKit Go.Proofs.Ythbcdmbicfmeaaa.P Go.Proofs.Ythbcdmbicfmeaaa.Kit Go.Proofs.YthbcdmbicfmeaaaW.PrintWords Go.Proofs.YthbcdmbicfmeaaaW.PrintLast

theorem Ev.done {α : Type} {g : Nat → Option α} {r : α} (h : ∀ k, g (k + 1) = some r) : Ev g r := Ev.step (f := fun _ => some r) h (Ev.now r)

theorem wsucc (i : Nat) (h : i < 2 ^ 62) : wrap64 ((i : Int) + 1) = ((i + 1 : Nat) : Int) := by
  rw [w64 (by omega) (by omega)]
  rfl

/-- A scale, as the reference tells it. -/
def isScale (n s : Int) : Bool := decide (2 ≤ n ∧ n ≤ 16 ∧ 1 ≤ s ∧ s < 2 ^ n.toNat)

theorem isScale_nat {n s : Int} (h : isScale n s = true) : ∃ m S : Nat, n = m ∧ s = S ∧ 2 ≤ m ∧ m ≤ 16 ∧ 1 ≤ S ∧ S < 2 ^ m := by
  obtain ⟨h1, h2, h3, h4⟩ := of_decide_eq_true h
  refine ⟨n.toNat, s.toNat, by omega, by omega, by omega, by omega, by omega, ?_⟩
  have : (s.toNat : Int) < ((2 ^ n.toNat : Nat) : Int) := by
    rw [Int.toNat_of_nonneg (by omega)]
    exact_mod_cast h4
  exact_mod_cast this

theorem isScale_of {m S : Nat} (h1 : 2 ≤ m) (h2 : m ≤ 16) (h3 : 1 ≤ S) (h4 : S < 2 ^ m) : isScale m S = true := by
  refine decide_eq_true ⟨by omega, by omega, by omega, ?_⟩
  rw [Int.toNat_natCast]
  exact_mod_cast h4

theorem pow_lt (m : Nat) (h : m ≤ 16) : 2 ^ m ≤ 65536 := Nat.pow_le_pow_right (n := 2) (by decide) h

theorem shl_one (m : Nat) (h : m ≤ 16) : shl .i64 1 (m : Int) = 2 ^ (m : Int).toNat := by
  have := shl_nat 1 m (by omega) (by have := pow_lt m h; omega)
  rw [show ((1 : Nat) : Int) = 1 from rfl] at this
  rw [this]
  simp

theorem Scale_f (n s : Int) : sackbutref03_Scale.f n s = some (isScale n s) := by
  unfold sackbutref03_Scale.f isScale
  by_cases h1 : 2 ≤ n
  · by_cases h2 : n ≤ 16
    · obtain ⟨m, rfl⟩ := Int.eq_ofNat_of_zero_le (show 0 ≤ n by omega)
      rw [if_pos h1, if_pos h2, shl_one m (by omega)]
      by_cases h3 : 1 ≤ s
      · rw [if_pos h3, if_pos (by omega)]
        simp [h1, h2, h3]
      · rw [if_neg (by omega)]
        simp [h3]
    · rw [if_pos h1, if_neg h2]
      simp [h2]
  · rw [if_neg h1]
    simp [h1]

theorem isCircle_f (n : Int) : even_isCircle.f n = some (decide (2 ≤ n ∧ n ≤ 16)) := by
  unfold even_isCircle.f
  by_cases h1 : 2 ≤ n
  · rw [if_pos h1]; simp [h1]
  · rw [if_neg h1]; simp [h1]

theorem Tones_l0 (n s : Nat) (hn : n ≤ 62) (hs : s < 2 ^ 62) : ∀ (d i : Nat) (acc : List Int), i + d = n → acc.length ≤ i → Ev (fun k => sackbutref03_Tones.l0 k s acc n i) (acc ++ toI (tonesFrom s i d))
  | 0, i, acc, h, _ => by
    refine Ev.done fun k => ?_
    simp only [sackbutref03_Tones.l0]
    rw [if_neg (by omega)]
    simp [tonesFrom, toI]
  | d + 1, i, acc, h, hl => by
    have hw := wsucc i (by omega)
    have hb := bit_at s i hs (by omega)
    by_cases hi : s.testBit i
    · refine Ev.step (f := fun k => sackbutref03_Tones.l0 k s (acc ++ [(i : Int)]) n ((i + 1 : Nat) : Int)) (fun k => ?_) ?_
      · simp only [sackbutref03_Tones.l0]
        rw [if_pos (by omega), if_pos (by omega), hb, if_pos hi, if_pos rfl, if_pos (by omega), hw]
      · have := Tones_l0 n s hn hs d (i + 1) (acc ++ [(i : Int)]) (by omega) (by simp; omega)
        unfold tonesFrom
        rw [if_pos hi, toI_append, ← List.append_assoc]
        exact this
    · refine Ev.step (f := fun k => sackbutref03_Tones.l0 k s acc n ((i + 1 : Nat) : Int)) (fun k => ?_) ?_
      · simp only [sackbutref03_Tones.l0]
        rw [if_pos (by omega), if_pos (by omega), hb, if_neg hi, if_neg (by decide), hw]
      · have := Tones_l0 n s hn hs d (i + 1) acc (by omega) (by omega)
        unfold tonesFrom
        rw [if_neg hi, List.nil_append]
        exact this

theorem Tones_f (n s : Nat) (hn : n ≤ 62) (hs : s < 2 ^ 62) : Ev (fun k => sackbutref03_Tones.f k n s) (toI (tones n s)) := by
  have := Tones_l0 n s hn hs n 0 [] (by omega) (by simp)
  simpa [sackbutref03_Tones.f, tones] using this

theorem read_l0 (n s : Nat) (hn : n ≤ 62) (hs : s < 2 ^ 62) (m : Int) : ∀ (d i : Nat) (acc : List Int), i + d = n → acc.length ≤ i → Ev (fun k => even_read.l0 k s n i m acc) (m, acc ++ toI (tonesFrom s i d), true)
  | 0, i, acc, h, _ => by
    refine Ev.done fun k => ?_
    simp only [even_read.l0]
    rw [if_neg (by omega)]
    simp [tonesFrom, toI]
  | d + 1, i, acc, h, hl => by
    have hw := wsucc i (by omega)
    have hb := bit_at s i hs (by omega)
    by_cases hi : s.testBit i
    · refine Ev.step (f := fun k => even_read.l0 k s n ((i + 1 : Nat) : Int) m (acc ++ [(i : Int)])) (fun k => ?_) ?_
      · simp only [even_read.l0]
        rw [if_pos (by omega), if_pos (by omega), hb, if_pos hi, if_pos rfl, if_pos (by omega), hw]
      · have := read_l0 n s hn hs m d (i + 1) (acc ++ [(i : Int)]) (by omega) (by simp; omega)
        unfold tonesFrom
        rw [if_pos hi, toI_append, ← List.append_assoc]
        exact this
    · refine Ev.step (f := fun k => even_read.l0 k s n ((i + 1 : Nat) : Int) m acc) (fun k => ?_) ?_
      · simp only [even_read.l0]
        rw [if_pos (by omega), if_pos (by omega), hb, if_neg hi, if_neg (by decide), hw]
      · have := read_l0 n s hn hs m d (i + 1) acc (by omega) (by omega)
        unfold tonesFrom
        rw [if_neg hi, List.nil_append]
        exact this

theorem read_yes (n s : Nat) (h : isScale n s = true) : Ev (fun k => even_read.f k n s) ((n : Int), toI (tones n s), true) := by
  obtain ⟨h1, h2, h3, h4⟩ := of_decide_eq_true h
  have hs : s < 2 ^ 62 := by
    rw [Int.toNat_natCast] at h4
    have h5 : s < 2 ^ n := by exact_mod_cast h4
    have := pow_lt n (by omega)
    omega
  have h0 := read_l0 n s (by omega) hs n n 0 [] (by omega) (by simp)
  have h6 : Ev (fun k => even_read.j0 k n s false n) ((n : Int), toI (tones n s), true) := by
    refine Ev.step (f := fun k => even_read.l0 k s n 0 n []) (fun k => ?_) ?_
    · simp only [even_read.j0]
      rw [if_neg (by decide)]
    · simpa [tones] using h0
  refine Ev.congr (fun k => ?_) h6
  unfold even_read.f
  rw [isCircle_f]
  simp only [Option.bind_some]
  rw [if_pos (by simp; omega), if_neg (by omega), if_pos (by omega), shl_one n (by omega), decide_eq_false (by omega)]

theorem read_no (n s : Int) (h : isScale n s = false) : Ev (fun k => even_read.f k n s) (n, [], false) := by
  have h' := of_decide_eq_false h
  have h0 : Ev (fun k => even_read.j0 k n s true n) (n, [], false) := Ev.done fun k => by
    simp only [even_read.j0, if_true]
  refine Ev.congr (fun k => ?_) h0
  unfold even_read.f
  rw [isCircle_f]
  simp only [Option.bind_some]
  by_cases h1 : 2 ≤ n ∧ n ≤ 16
  · rw [if_pos (by simpa using h1)]
    obtain ⟨m, rfl⟩ := Int.eq_ofNat_of_zero_le (show 0 ≤ n by omega)
    by_cases h2 : s < 1
    · rw [if_pos h2]
    · rw [if_neg h2, if_pos (by omega), shl_one m (by omega), decide_eq_true]
      by_cases h3 : s < 2 ^ (m : Int).toNat
      · exact absurd ⟨h1.1, h1.2, by omega, h3⟩ h'
      · omega
  · rw [if_neg (by simpa using h1)]

theorem awake_f : Ev (fun k => sackbutlaw03_awake.f k) true := by
  refine Ev.of (k := 10) sackbutlaw03_awake.mono ?_
  decide +kernel

end Go.Proofs.Ythbcdmbicfmeaaa.Base
