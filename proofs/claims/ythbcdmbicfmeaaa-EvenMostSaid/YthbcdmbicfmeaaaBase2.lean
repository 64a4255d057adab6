/- What Spread, made, Maker, Part, moved and gcd compute, told by plain functions on natural numbers. -/
import Derived.Test.YthbcdmbicfmeaaaP2
import Derived.Test.YthbcdmbicfmeaaaP3
import Derived.Test.YthbcdmbicfmeaaaBase
import Derived.Test.YthbcdmbicfmeaaaPlain
namespace Go.Proofs.Ythbcdmbicfmeaaa.Base2
open Go.RowKit Go.Proofs.Ythbcdmbicfmeaaa.P Go.Proofs.Ythbcdmbicfmeaaa.Kit Go.Proofs.Ythbcdmbicfmeaaa.Base Go.Proofs.Ythbcdmbicfmeaaa.Plain Go.Proofs.YthbcdmbicfmeaaaW.PrintWords Go.Proofs.YthbcdmbicfmeaaaW.PrintLast

def isPart (n k : Int) : Bool := decide (2 ≤ n ∧ n ≤ 16 ∧ 1 ≤ k ∧ k ≤ n)
theorem Part_f (n k : Int) : sackbutref03_Part.f n k = some (isPart n k) := by
  unfold sackbutref03_Part.f isPart
  by_cases h1 : 2 ≤ n
  · by_cases h2 : n ≤ 16
    · by_cases h3 : 1 ≤ k
      · rw [if_pos h1, if_pos h2, if_pos h3]; simp [h1, h2, h3]
      · rw [if_pos h1, if_pos h2, if_neg h3]; simp [h3]
    · rw [if_pos h1, if_neg h2]; simp [h2]
  · rw [if_neg h1]; simp [h1]
theorem isPart_nat {n k : Int} (h : isPart n k = true) : ∃ m K : Nat, n = m ∧ k = K ∧ 2 ≤ m ∧ m ≤ 16 ∧ 1 ≤ K ∧ K ≤ m := by
  obtain ⟨h1, h2, h3, h4⟩ := of_decide_eq_true h
  exact ⟨n.toNat, k.toNat, by omega, by omega, by omega, by omega, by omega, by omega⟩

theorem or_shl (a t : Nat) (ha : a < 65536) (ht : t < 16) : Go.bits .or .i64 (a : Int) (shl .i64 1 (t : Int)) = ((a ||| 2 ^ t : Nat) : Int) := by
  have h1 : 2 ^ t < 65536 := Nat.pow_lt_pow_right (a := 2) (n := 16) (by decide) ht
  have h2 := shl_nat 1 t (by omega) (by omega)
  rw [show ((1 : Nat) : Int) = 1 from rfl, Nat.one_mul] at h2
  rw [h2]
  exact or_nat a (2 ^ t) (by omega) (by omega)

theorem tmod_nat (a b : Nat) : Int.tmod (a : Int) (b : Int) = ((a % b : Nat) : Int) := rfl
theorem tdiv_nat (a b : Nat) : Int.tdiv (a : Int) (b : Int) = ((a / b : Nat) : Int) := rfl
theorem wnat (a : Nat) (h : a < 2 ^ 62) : wrap64 (a : Int) = (a : Int) := w64 (by omega) (by omega)

theorem mul_lt {a b A B : Nat} (ha : a ≤ A) (hb : b ≤ B) : a * b ≤ A * B := Nat.mul_le_mul ha hb

theorem Spread_l0 (n k m : Nat) (hn0 : 0 < n) (hn : n ≤ 16) (hk0 : 0 < k) (hk : k ≤ 16) (hm : m ≤ 16) : ∀ (d i acc : Nat), i + d = k → acc < 65536 →
    Ev (fun r => even_Spread.l0 r n k m acc k i) (((spreadFrom n k m i d acc : Nat) : Int), 0)
  | 0, i, acc, h, _ => by
    refine Ev.done fun r => ?_
    simp only [even_Spread.l0]
    rw [if_neg (by omega)]
    rfl
  | d + 1, i, acc, h, ha => by
    have hin : i * n ≤ 16 * 16 := mul_lt (by omega) hn
    have e1 : wrap64 ((i : Int) * (n : Int)) = ((i * n : Nat) : Int) := by rw [← Int.natCast_mul]; exact wnat _ (by omega)
    have e2 : wrap64 (((i * n : Nat) : Int) + (m : Int)) = ((i * n + m : Nat) : Int) := by rw [← Int.natCast_add]; exact wnat _ (by omega)
    have hd : (i * n + m) / k ≤ i * n + m := Nat.div_le_self _ _
    have e3 : wrap64 (Int.tdiv ((i * n + m : Nat) : Int) (k : Int)) = (((i * n + m) / k : Nat) : Int) := by rw [tdiv_nat]; exact wnat _ (by omega)
    have hlt : (i * n + m) / k % n < 16 := Nat.lt_of_lt_of_le (Nat.mod_lt _ hn0) hn
    refine Ev.step (fun r => ?_) (Spread_l0 n k m hn0 hn hk0 hk hm d (i + 1) (acc ||| 2 ^ ((i * n + m) / k % n)) (by omega) (or_lt16 _ _ ha hlt))
    simp only [even_Spread.l0]
    rw [e1, e2, e3, tmod_nat, or_shl _ _ ha hlt, wsucc i (by omega), if_pos (by omega), if_neg (by omega), if_neg (by omega), if_pos (by omega)]

theorem Spread_yes (n k m : Nat) (h : isPart n k = true) (hm : m < n) : Ev (fun r => even_Spread.f r n k m) (((spread n k m : Nat) : Int), 0) := by
  obtain ⟨h1, h2, h3, h4⟩ := of_decide_eq_true h
  have h0 := Spread_l0 n k m (by omega) (by omega) (by omega) (by omega) (by omega) k 0 0 (by omega) (by omega)
  have h6 : Ev (fun r => even_Spread.j0 r n k m false) (((spread n k m : Nat) : Int), 0) := by
    refine Ev.step (f := fun r => even_Spread.l0 r n k m 0 k 0) (fun r => ?_) h0
    simp only [even_Spread.j0, Bool.false_eq_true, if_false]
  refine Ev.congr (fun r => ?_) h6
  unfold even_Spread.f
  rw [isCircle_f]
  simp only [Option.bind_some]
  rw [if_pos (by simp; omega), if_neg (by omega), if_neg (by omega), if_neg (by omega), decide_eq_false (by omega)]

theorem Spread_no (n k m : Int) (h : ¬ (isPart n k = true ∧ 0 ≤ m ∧ m < n)) : Ev (fun r => even_Spread.f r n k m) (0, 2) := by
  have h6 : Ev (fun r => even_Spread.j0 r n k m true) (0, 2) := Ev.done fun r => by simp only [even_Spread.j0, if_true]
  refine Ev.congr (fun r => ?_) h6
  unfold even_Spread.f
  rw [isCircle_f]
  simp only [Option.bind_some]
  by_cases h1 : 2 ≤ n ∧ n ≤ 16
  · rw [if_pos (by simpa using h1)]
    by_cases h2 : k < 1
    · rw [if_pos h2]
    · rw [if_neg h2]
      by_cases h3 : k > n
      · rw [if_pos h3]
      · rw [if_neg h3]
        by_cases h4 : m < 0
        · rw [if_pos h4]
        · rw [if_neg h4, decide_eq_true]
          by_cases h5 : m < n
          · exact absurd ⟨decide_eq_true ⟨h1.1, h1.2, by omega, by omega⟩, by omega, h5⟩ h
          · omega
  · rw [if_neg (by simpa using h1)]

theorem made_l0 (n c g k : Nat) (hn0 : 0 < n) (hn : n ≤ 16) (hc : c ≤ 16) (hg : g ≤ 16) (hk : k ≤ 16) : ∀ (d i acc : Nat), i + d = k → acc < 65536 →
    Ev (fun r => even_made.l0 r n c g acc k i) (((madeFrom n c g i d acc : Nat) : Int))
  | 0, i, acc, h, _ => by
    refine Ev.done fun r => ?_
    simp only [even_made.l0]
    rw [if_neg (by omega)]
    rfl
  | d + 1, i, acc, h, ha => by
    have hin : i * g ≤ 16 * 16 := mul_lt (by omega) hg
    have e1 : wrap64 ((i : Int) * (g : Int)) = ((i * g : Nat) : Int) := by rw [← Int.natCast_mul]; exact wnat _ (by omega)
    have e2 : wrap64 ((c : Int) + ((i * g : Nat) : Int)) = ((c + i * g : Nat) : Int) := by rw [← Int.natCast_add]; exact wnat _ (by omega)
    have hlt : (c + i * g) % n < 16 := Nat.lt_of_lt_of_le (Nat.mod_lt _ hn0) hn
    refine Ev.step (fun r => ?_) (made_l0 n c g k hn0 hn hc hg hk d (i + 1) (acc ||| 2 ^ ((c + i * g) % n)) (by omega) (or_lt16 _ _ ha hlt))
    simp only [even_made.l0]
    rw [e1, e2, tmod_nat, or_shl _ _ ha hlt, wsucc i (by omega), if_pos (by omega), if_neg (by omega), if_pos (by omega)]

theorem made_f (n c g k : Nat) (hn0 : 0 < n) (hn : n ≤ 16) (hc : c ≤ 16) (hg : g ≤ 16) (hk : k ≤ 16) : Ev (fun r => even_made.f r n c g k) ((made n c g k : Nat) : Int) :=
  made_l0 n c g k hn0 hn hc hg hk k 0 0 (by omega) (by omega)

theorem getD_lt {t : List Nat} {b : Nat} (hb : 0 < b) (h : ∀ x, x ∈ t → x < b) (i : Nat) : t.getD i 0 < b := by
  rw [List.getD_eq_getElem?_getD]
  cases e : t[i]? with
  | none => simpa using hb
  | some x => simpa using h x (List.mem_of_getElem? e)

theorem drop_cons (t : List Nat) (i : Nat) (h : i < t.length) : t.drop i = t.getD i 0 :: t.drop (i + 1) := by
  rw [List.drop_eq_getElem_cons h, List.getD_eq_getElem?_getD, List.getElem?_eq_getElem h]
  rfl

/-- One step g: all tones are tried. -/
theorem Maker_l1 (n s g : Nat) (t : List Nat) (hn0 : 0 < n) (hn : n ≤ 16) (hg : g ≤ 16) (hl : t.length ≤ 16) (ht : ∀ x, x ∈ t → x < 16) (r : Int × Int) (hr : anyMade n s g t.length t = false → Ev (fun k => even_Maker.l0 k n s ((g + 1 : Nat) : Int) n (toI t)) r) (hr' : anyMade n s g t.length t = true → r = ((g : Int), 0)) :
    ∀ (d i : Nat), i + d = t.length → anyMade n s g t.length t = anyMade n s g t.length (t.drop i) → Ev (fun k => even_Maker.l1 k n s g (toI t) t.length i n (toI t)) r
  | 0, i, h, ha => by
    have hd : t.drop i = [] := List.drop_eq_nil_of_le (by omega)
    rw [hd] at ha
    refine Ev.step (fun k => ?_) (hr ha)
    simp only [even_Maker.l1]
    rw [if_neg (by omega), wsucc g (by omega)]
  | d + 1, i, h, ha => by
    rw [drop_cons t i (by omega)] at ha
    have hx : t.getD i 0 < 16 := getD_lt (by omega) ht i
    have hm := made_f n (t.getD i 0) g t.length hn0 hn (by omega) hg hl
    by_cases e : made n (t.getD i 0) g t.length = s
    · have hr2 := hr' (by rw [ha, anyMade, if_pos e])
      subst hr2
      refine Ev.step (f := fun k => (even_made.f k n ((t.getD i 0 : Nat) : Int) g (t.length : Int)).bind fun t149 => (if t149 = (s : Int) then (some ((g : Int), (0 : Int))) else (even_Maker.l1 k n s g (toI t) t.length ((i + 1 : Nat) : Int) n (toI t)))) (fun k => ?_) (Ev.bind hm ?_)
      · simp only [even_Maker.l1]
        rw [toI_length, rd_toI, wsucc i (by omega), if_pos (by omega), if_pos (by omega), if_pos (by omega)]
      · rw [e]
        simp only [if_true]
        exact Ev.now _
    · have ha2 : anyMade n s g t.length t = anyMade n s g t.length (t.drop (i + 1)) := by rw [ha, anyMade, if_neg e]
      refine Ev.step (f := fun k => (even_made.f k n ((t.getD i 0 : Nat) : Int) g (t.length : Int)).bind fun t149 => (if t149 = (s : Int) then (some ((g : Int), (0 : Int))) else (even_Maker.l1 k n s g (toI t) t.length ((i + 1 : Nat) : Int) n (toI t)))) (fun k => ?_) (Ev.bind hm ?_)
      · simp only [even_Maker.l1]
        rw [toI_length, rd_toI, wsucc i (by omega), if_pos (by omega), if_pos (by omega), if_pos (by omega)]
      · have e' : ¬ ((made n (t.getD i 0) g t.length : Nat) : Int) = (s : Int) := by omega
        simp only [e', if_false]
        exact Maker_l1 n s g t hn0 hn hg hl ht r hr hr' d (i + 1) (by omega) ha2

def told (o : Option Nat) : Int × Int := match o with | some g => ((g : Int), 0) | none => (0, 4)

theorem Maker_l0 (n s : Nat) (t : List Nat) (hn0 : 0 < n) (hn : n ≤ 16) (hl : t.length ≤ 16) (ht : ∀ x, x ∈ t → x < 16) :
    ∀ (d g : Nat), g + d = n → Ev (fun k => even_Maker.l0 k n s g n (toI t)) (told (makerFrom n s t.length t g d))
  | 0, g, h => by
    refine Ev.done fun k => ?_
    simp only [even_Maker.l0]
    rw [if_neg (by omega)]
    rfl
  | d + 1, g, h => by
    refine Ev.step (f := fun k => even_Maker.l1 k n s g (toI t) t.length 0 n (toI t)) (fun k => ?_) ?_
    · simp only [even_Maker.l0]
      rw [if_pos (by omega), toI_length]
    · refine Maker_l1 n s g t hn0 hn (by omega) hl ht _ (fun ha => ?_) (fun ha => ?_) t.length 0 (by omega) (by simp)
      · have := Maker_l0 n s t hn0 hn hl ht d (g + 1) (by omega)
        simp only [makerFrom, ha, Bool.false_eq_true, if_false]
        exact this
      · simp only [makerFrom, ha, if_true]
        rfl

theorem tones_lt (n s x : Nat) (h : x ∈ tones n s) : x < n := by
  have key : ∀ (d i : Nat), x ∈ tonesFrom s i d → x < i + d := by
    intro d
    induction d with
    | zero => intro i h; simp [tonesFrom] at h
    | succ d ih =>
      intro i h
      unfold tonesFrom at h
      rw [List.mem_append] at h
      rcases h with h | h
      · split at h
        · simp at h; omega
        · simp at h
      · have := ih (i + 1) h
        omega
  have := key n 0 h
  omega

theorem Maker_yes (n s : Nat) (h : isScale n s = true) : Ev (fun k => even_Maker.f k n s) (told (maker n s)) := by
  obtain ⟨h1, h2, _, _⟩ := of_decide_eq_true h
  have hl := tones_length n s
  have h0 := Maker_l0 n s (tones n s) (by omega) (by omega) (by omega) (fun x hx => by have := tones_lt n s x hx; omega) (n - 1) 1 (by omega)
  refine Ev.congr (fun k => rfl) (Ev.bind (f := fun k (b : Int × List Int × Bool) => (if b.2.2 = true then (even_Maker.l0 k n s 1 b.1 b.2.1) else (some (0, 2)))) (read_yes n s h) ?_)
  simp only [if_true]
  exact h0

theorem Maker_no (n s : Int) (h : isScale n s = false) : Ev (fun k => even_Maker.f k n s) (0, 2) :=
  Ev.congr (fun _ => rfl) (Ev.bind (f := fun k (b : Int × List Int × Bool) => (if b.2.2 = true then (even_Maker.l0 k n s 1 b.1 b.2.1) else (some (0, 2)))) (read_no n s h) (Ev.now _))

theorem moved_f (n s k : Nat) (hn0 : 0 < n) (hn : n ≤ 16) (hs : s < 65536) (hk : k < n) : sackbutlaw03_moved.f n s k = some ((moved n s k : Nat) : Int) := by
  unfold sackbutlaw03_moved.f moved
  have hp : 2 ^ k < 65536 := Nat.pow_lt_pow_right (a := 2) (n := 16) (by decide) (by omega)
  have hpn : 2 ^ n ≤ 65536 := pow_lt n hn
  have hsk : s * 2 ^ k ≤ 65536 * 65536 := Nat.mul_le_mul (by omega) (by omega)
  have hsd : s / 2 ^ (n - k) ≤ s := Nat.div_le_self _ _
  have e0 : wrap64 ((n : Int) - (k : Int)) = ((n - k : Nat) : Int) := by
    rw [w64 (by omega) (by omega)]
    omega
  have e1 := shl_nat s k (by omega) (by omega)
  have e2 := shr_nat s (n - k) (by omega)
  have e3 : shl .i64 1 (n : Int) = ((2 ^ n : Nat) : Int) := by
    have := shl_nat 1 n (by omega) (by omega)
    rw [Nat.one_mul] at this
    exact this
  have hp1 : 1 ≤ 2 ^ n := Nat.one_le_two_pow
  have e4 : wrap64 (((2 ^ n : Nat) : Int) - 1) = ((2 ^ n - 1 : Nat) : Int) := by
    rw [w64 (by omega) (by omega)]
    omega
  rw [if_pos (by omega), e0, if_pos (by omega), if_pos (by omega), e1, e2, e3, e4, or_nat _ _ (by omega) (by omega)]
  rw [and_nat _ _ (Nat.or_lt_two_pow (by omega) (by omega)) (by omega)]

theorem gcd_f : ∀ (b a : Nat), Ev (fun k => sackbutlaw03_gcd.f k a b) ((Nat.gcd a b : Nat) : Int) := by
  intro b
  induction b using Nat.strongRecOn with
  | _ b ih =>
    intro a
    cases b with
    | zero =>
      refine Ev.done fun k => ?_
      simp only [sackbutlaw03_gcd.f, sackbutlaw03_gcd.l0]
      rw [if_pos (by omega), Nat.gcd_zero_right]
    | succ b =>
      have h := ih (a % (b + 1)) (Nat.mod_lt _ (by omega)) (b + 1)
      rw [Nat.gcd_comm a (b + 1), Nat.gcd_rec (b + 1) a, Nat.gcd_comm (a % (b + 1)) (b + 1)]
      refine Ev.step (fun k => ?_) h
      simp only [sackbutlaw03_gcd.f, sackbutlaw03_gcd.l0]
      rw [if_neg (by omega), tmod_nat]

end Go.Proofs.Ythbcdmbicfmeaaa.Base2
