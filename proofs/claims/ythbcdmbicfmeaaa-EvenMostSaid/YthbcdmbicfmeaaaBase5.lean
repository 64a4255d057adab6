/- What List and Most of the program and of the reference compute, told by plain lists of natural numbers. -/
import Derived.Test.YthbcdmbicfmeaaaP10
import Derived.Test.YthbcdmbicfmeaaaP14
import Derived.Test.YthbcdmbicfmeaaaP15
import Derived.Test.YthbcdmbicfmeaaaP2
import Derived.Test.YthbcdmbicfmeaaaBase4
import Derived.Test.YthbcdmbicfmeaaaSum
namespace Go.Proofs.Ythbcdmbicfmeaaa.Base5
open Go.RowKit Go.Proofs.Ythbcdmbicfmeaaa.P Go.Proofs.Ythbcdmbicfmeaaa.Kit Go.Proofs.Ythbcdmbicfmeaaa.Base Go.Proofs.Ythbcdmbicfmeaaa.Base2 Go.Proofs.Ythbcdmbicfmeaaa.Base3 Go.Proofs.Ythbcdmbicfmeaaa.Base4 Go.Proofs.Ythbcdmbicfmeaaa.Plain Go.Proofs.Ythbcdmbicfmeaaa.SumLaw Go.Proofs.YthbcdmbicfmeaaaW.PrintWords Go.Proofs.YthbcdmbicfmeaaaW.PrintLast

/-- The sets from s on, d of them, that have k tones. -/
def kSets (n k : Nat) : Nat → Nat → List Nat
  | _, 0 => []
  | s, d + 1 => if (tones n s).length = k then s :: kSets n k (s + 1) d else kSets n k (s + 1) d
theorem kSets_mem (n k x : Nat) : ∀ (d s : Nat), x ∈ kSets n k s d ↔ s ≤ x ∧ x < s + d ∧ (tones n x).length = k
  | 0, s => by simp [kSets]; omega
  | d + 1, s => by
    unfold kSets
    have ih := kSets_mem n k x d (s + 1)
    by_cases h : (tones n s).length = k
    · rw [if_pos h, List.mem_cons, ih]
      constructor
      · rintro (rfl | ⟨a, b, c⟩)
        · exact ⟨by omega, by omega, h⟩
        · exact ⟨by omega, by omega, c⟩
      · rintro ⟨a, b, c⟩
        by_cases e : x = s
        · exact .inl e
        · exact .inr ⟨by omega, by omega, c⟩
    · rw [if_neg h, ih]
      constructor
      · rintro ⟨a, b, c⟩; exact ⟨by omega, by omega, c⟩
      · rintro ⟨a, b, c⟩
        refine ⟨?_, by omega, c⟩
        by_cases e : x = s
        · rw [e] at c; exact absurd c h
        · omega
theorem kSets_rising (n k : Nat) : ∀ (d s : Nat), Rising (kSets n k s d)
  | 0, s => List.Pairwise.nil
  | d + 1, s => by
    unfold kSets
    split
    · refine List.pairwise_cons.2 ⟨fun y hy => ?_, kSets_rising n k d (s + 1)⟩
      have := (kSets_mem n k y d (s + 1)).1 hy
      omega
    · exact kSets_rising n k d (s + 1)
theorem kSets_length (n k : Nat) : ∀ (d s : Nat), (kSets n k s d).length ≤ d
  | 0, s => by simp [kSets]
  | d + 1, s => by
    unfold kSets
    have := kSets_length n k d (s + 1)
    split
    · simp; omega
    · omega
/-- All scales with k tones. -/
def allSets (n k : Nat) : List Nat := kSets n k 1 (2 ^ n - 1)
def evenList (n k : Nat) : List Nat := (allSets n k).filter (fun s => evenN n s)
/-- The greatest sum and what has it, behind one scale more. -/
def mostStep (n : Nat) (st : Int × List Nat) (s : Nat) : Int × List Nat :=
  if sumI n (toI (tones n s)) > st.1 then (sumI n (toI (tones n s)), [s]) else if sumI n (toI (tones n s)) = st.1 then (st.1, st.2 ++ [s]) else st
def mostFrom (n : Nat) (l : List Nat) (st : Int × List Nat) : Int × List Nat := l.foldl (mostStep n) st
def mostList (n k : Nat) : List Nat := (mostFrom n (allSets n k) (-1, [])).2
theorem mostFrom_length (n : Nat) : ∀ (l : List Nat) (st : Int × List Nat), (mostFrom n l st).2.length ≤ max st.2.length 1 + l.length
  | [], st => by simp [mostFrom]; omega
  | s :: l, st => by
    have h := mostFrom_length n l (mostStep n st s)
    have h2 : (mostStep n st s).2.length ≤ max st.2.length 1 + 1 := by
      unfold mostStep
      split
      · simp
      · split
        · simp; omega
        · omega
    show (mostFrom n l (mostStep n st s)).2.length ≤ _
    rw [List.length_cons]
    omega

/-- What the iterator hands for a set. -/
def item (n s : Nat) : Int × Int × List Int := ((s : Int), (n : Int), toI (tones n s))
theorem from_f (n k : Nat) (h1 : 2 ≤ n) (h2 : n ≤ 16) : ∀ (d s : Nat), 1 ≤ s → s + d = 2 ^ n → Ev (fun q => even_scales.from q n k s d) ((kSets n k s d).map (item n))
  | 0, s, _, _ => Ev.now _
  | d + 1, s, hs, hd => by
    have hsc := isScale_of h1 h2 hs (show s < 2 ^ n by omega)
    refine Ev.bind (f := fun q (b : Int × List Int × Bool) => (even_scales.from q n k (s + 1) d).bind fun zs => some (if (b.2.1.length : Int) = k then ((s : Int), b.1, b.2.1) :: zs else zs)) (read_yes n s hsc) ?_
    refine Ev.bind (f := fun q zs => some (if ((toI (tones n s)).length : Int) = k then ((s : Int), (n : Int), toI (tones n s)) :: zs else zs)) (from_f n k h1 h2 d (s + 1) (by omega) (by omega)) ?_
    refine Ev.congr (fun q => ?_) (Ev.now _)
    rw [toI_length, kSets]
    by_cases h : (tones n s).length = k
    · rw [if_pos (by omega), if_pos h]; rfl
    · rw [if_neg (by omega), if_neg h]
theorem pick_f (n : Nat) (h1 : 2 ≤ n) (h2 : n ≤ 16) : ∀ (l : List Nat), (∀ s, s ∈ l → isScale n s = true) → Ev (fun q => even_List.pick q (l.map (item n))) (toI (l.filter (fun s => evenN n s)))
  | [], _ => Ev.now _
  | s :: l, hl => by
    have hs := hl s List.mem_cons_self
    have T := isTones n s h1 h2
    refine Ev.bind (f := fun q (b : Bool) => (even_List.pick q (l.map (item n))).bind fun r => some (if b = true then (s : Int) :: r else r)) (even_f T (tones_pos n s hs)) ?_
    refine Ev.bind (f := fun q r => some (if evenFrom n (tones n s) 1 ((tones n s).length - 1) = true then (s : Int) :: r else r)) (pick_f n h1 h2 l (fun x hx => hl x (List.mem_cons_of_mem _ hx))) ?_
    refine Ev.congr (fun q => ?_) (Ev.now _)
    rw [List.filter_cons]
    show some (if evenN n s = true then (s : Int) :: toI (l.filter _) else toI (l.filter _)) = _
    by_cases h : evenN n s = true
    · rw [if_pos h, if_pos h]; rfl
    · rw [if_neg h, if_neg h]
theorem best_f (n : Nat) (h1 : 2 ≤ n) (h2 : n ≤ 16) : ∀ (l : List Nat) (st : Int × List Nat), (∀ s, s ∈ l → isScale n s = true) → Ev (fun q => even_Most.best q (l.map (item n)) (st.1, toI st.2)) ((mostFrom n l st).1, toI (mostFrom n l st).2)
  | [], _, _ => Ev.now _
  | s :: l, st, hl => by
    have hlen := tones_length n s
    have hsum := even_sum n (toI (tones n s)) (by omega) (by omega) (small_tones n s (by omega)) (by rw [toI_length]; omega)
    refine Ev.bind (f := fun q (st' : Int × List Int) => even_Most.best q (l.map (item n)) st') (a := ((mostStep n st s).1, toI (mostStep n st s).2)) (Ev.bind (f := fun q x => some (if x > st.1 then (x, [(s : Int)]) else if x = st.1 then (st.1, toI st.2 ++ [(s : Int)]) else (st.1, toI st.2))) hsum ?_) (best_f n h1 h2 l (mostStep n st s) (fun x hx => hl x (List.mem_cons_of_mem _ hx)))
    refine Ev.congr (fun q => ?_) (Ev.now _)
    unfold mostStep
    by_cases c1 : sumI n (toI (tones n s)) > st.1
    · rw [if_pos c1, if_pos c1]; rfl
    · rw [if_neg c1, if_neg c1]
      by_cases c2 : sumI n (toI (tones n s)) = st.1
      · rw [if_pos c2, if_pos c2, toI_append]; rfl
      · rw [if_neg c2, if_neg c2]

theorem allSets_scale (n k : Nat) (h1 : 2 ≤ n) (h2 : n ≤ 16) (s : Nat) (h : s ∈ allSets n k) : isScale n s = true := by
  have := (kSets_mem n k s (2 ^ n - 1) 1).1 h
  exact isScale_of h1 h2 (by omega) (by omega)

theorem List_yes (n k : Nat) (h : isPart n k = true) : Ev (fun q => even_List.f q n k) (toI (evenList n k), 0) := by
  obtain ⟨h1, h2, h3, h4⟩ := of_decide_eq_true h
  have hpos := Nat.two_pow_pos n
  refine Ev.congr (fun q => ?_) (Ev.bind (f := fun q zs => (even_List.pick q zs).bind fun l => some (l, (0 : Int))) (from_f n k (by omega) (by omega) (2 ^ n - 1) 1 (Nat.le_refl _) (by omega)) (Ev.bind (f := fun _ l => some (l, (0 : Int))) (pick_f n (by omega) (by omega) _ (fun s hs => allSets_scale n k (by omega) (by omega) s hs)) (Ev.now _)))
  unfold even_List.f
  rw [if_pos ⟨h1, h2, h3, h4⟩]
  rfl
theorem List_no (n k : Int) (h : isPart n k = false) : Ev (fun q => even_List.f q n k) ([], 2) := by
  have h' := of_decide_eq_false h
  refine Ev.congr (fun q => ?_) (Ev.now _)
  unfold even_List.f
  rw [if_neg h']
theorem Most_yes (n k : Nat) (h : isPart n k = true) : Ev (fun q => even_Most.f q n k) (toI (mostList n k), 0) := by
  obtain ⟨h1, h2, h3, h4⟩ := of_decide_eq_true h
  have hpos := Nat.two_pow_pos n
  refine Ev.congr (fun q => ?_) (Ev.bind (f := fun q zs => (even_Most.best q zs (-1, [])).bind fun st => some (st.2, (0 : Int))) (from_f n k (by omega) (by omega) (2 ^ n - 1) 1 (Nat.le_refl _) (by omega)) (Ev.bind (f := fun _ (st : Int × List Int) => some (st.2, (0 : Int))) (best_f n (by omega) (by omega) _ (-1, []) (fun s hs => allSets_scale n k (by omega) (by omega) s hs)) (Ev.now _)))
  unfold even_Most.f
  rw [if_pos ⟨h1, h2, h3, h4⟩]
  rfl
theorem Most_no (n k : Int) (h : isPart n k = false) : Ev (fun q => even_Most.f q n k) ([], 2) := by
  have h' := of_decide_eq_false h
  refine Ev.congr (fun q => ?_) (Ev.now _)
  unfold even_Most.f
  rw [if_neg h']

/-! ### the reference -/
theorem shl_pow (n : Nat) (h : n ≤ 16) : shl .i64 1 (n : Int) = ((2 ^ n : Nat) : Int) := by
  have hp := pow_lt n h
  have := shl_nat 1 n (by omega) (by omega)
  rw [show ((1 : Nat) : Int) = 1 from rfl, Nat.one_mul] at this
  exact this
theorem rList_l0 (n k : Nat) (h1 : 2 ≤ n) (h2 : n ≤ 16) : ∀ (d s : Nat) (acc : List Nat), 1 ≤ s → s + d = 2 ^ n → acc.length ≤ s → Ev (fun q => sackbutref03_List.l0 q n k (toI acc) s) (toI (acc ++ (kSets n k s d).filter (fun s => evenN n s)))
  | 0, s, acc, _, hd, _ => by
    have hp := pow_lt n h2
    refine Ev.done fun q => ?_
    simp only [sackbutref03_List.l0]
    rw [shl_pow n h2, if_pos (by omega), if_neg (by omega), kSets, List.filter_nil, List.append_nil]
  | d + 1, s, acc, hs, hd, ha => by
    have hp := pow_lt n h2
    have hsc := isScale_of h1 h2 hs (show s < 2 ^ n by omega)
    have ih := fun acc' => rList_l0 n k h1 h2 d (s + 1) acc' (by omega) (by omega)
    refine Ev.step (f := fun q => (sackbutref03_Tones.f q n s).bind fun t407 => (if (t407.length : Int) = k then ((sackbutref03_Even.f q n s).bind fun t410 => (if t410 = true then (if (toI acc).length < 17592186044416 then (sackbutref03_List.l0 q n k (toI acc ++ [(s : Int)]) ((s + 1 : Nat) : Int)) else (none)) else (sackbutref03_List.l0 q n k (toI acc) ((s + 1 : Nat) : Int)))) else (sackbutref03_List.l0 q n k (toI acc) ((s + 1 : Nat) : Int)))) (fun q => ?_) (Ev.bind (Tones_f n s (by omega) (small_s hsc)) ?_)
    · simp only [sackbutref03_List.l0]
      rw [shl_pow n h2, if_pos (by omega), if_pos (by omega), wsucc s (by omega)]
    · rw [toI_length]
      unfold kSets
      by_cases c : (tones n s).length = k
      · have c' : ((tones n s).length : Int) = (k : Int) := by omega
        simp only [c', if_true]
        refine Ev.bind (rEven_f n s hsc) ?_
        rw [if_pos c, List.filter_cons]
        by_cases e : evenN n s = true
        · have hl : (toI acc).length < 17592186044416 := by rw [toI_length]; omega
          simp only [e, if_true, hl]
          have := ih (acc ++ [s]) (by simp; omega)
          rw [toI_append, List.append_assoc] at this
          exact this
        · simp only [e, if_false, Bool.false_eq_true]
          exact ih acc (by omega)
      · have c' : ¬ ((tones n s).length : Int) = (k : Int) := by omega
        simp only [c', if_false]
        rw [if_neg c]
        exact ih acc (by omega)
theorem rList_f (n k : Nat) (h : isPart n k = true) : Ev (fun q => sackbutref03_List.f q n k) (toI (evenList n k)) := by
  obtain ⟨h1, h2, h3, h4⟩ := of_decide_eq_true h
  have hpos := Nat.two_pow_pos n
  exact rList_l0 n k (by omega) (by omega) (2 ^ n - 1) 1 [] (Nat.le_refl _) (by omega) (by simp)

theorem rMost_l0 (n k : Nat) (h1 : 2 ≤ n) (h2 : n ≤ 16) : ∀ (d s : Nat) (st : Int × List Nat), 1 ≤ s → s + d = 2 ^ n → st.2.length ≤ s → Ev (fun q => sackbutref03_Most.l0 q n k st.1 (toI st.2) s) (toI (mostFrom n (kSets n k s d) st).2)
  | 0, s, st, _, hd, _ => by
    have hp := pow_lt n h2
    refine Ev.done fun q => ?_
    simp only [sackbutref03_Most.l0]
    rw [shl_pow n h2, if_pos (by omega), if_neg (by omega)]
    rfl
  | d + 1, s, st, hs, hd, ha => by
    have hp := pow_lt n h2
    have hsc := isScale_of h1 h2 hs (show s < 2 ^ n by omega)
    have ih := fun st' => rMost_l0 n k h1 h2 d (s + 1) st' (by omega) (by omega)
    refine Ev.step (f := fun q => (sackbutref03_Tones.f q n s).bind fun t397 => (if (t397.length : Int) = k then ((sackbutref03_Sum.f q n s).bind fun t400 => (if t400 > st.1 then (sackbutref03_Most.l0 q n k t400 (toI [s]) ((s + 1 : Nat) : Int)) else (if t400 = st.1 then (if (toI st.2).length < 17592186044416 then (sackbutref03_Most.l0 q n k st.1 (toI st.2 ++ [(s : Int)]) ((s + 1 : Nat) : Int)) else (none)) else (sackbutref03_Most.l0 q n k st.1 (toI st.2) ((s + 1 : Nat) : Int))))) else (sackbutref03_Most.l0 q n k st.1 (toI st.2) ((s + 1 : Nat) : Int)))) (fun q => ?_) (Ev.bind (Tones_f n s (by omega) (small_s hsc)) ?_)
    · simp only [sackbutref03_Most.l0, if_true, List.nil_append]
      rw [shl_pow n h2, if_pos (by omega), if_pos (by omega), wsucc s (by omega)]
      rfl
    · rw [toI_length]
      unfold kSets
      by_cases c : (tones n s).length = k
      · have c' : ((tones n s).length : Int) = (k : Int) := by omega
        simp only [c', if_true]
        refine Ev.bind (RefSum n s hsc) ?_
        rw [if_pos c]
        show Ev _ (toI (mostFrom n (kSets n k (s + 1) d) (mostStep n st s)).2)
        unfold mostStep
        by_cases c1 : sumI n (toI (tones n s)) > st.1
        · simp only [c1, if_true]
          exact ih (sumI n (toI (tones n s)), [s]) (by simp)
        · by_cases c2 : sumI n (toI (tones n s)) = st.1
          · have hl : (toI st.2).length < 17592186044416 := by rw [toI_length]; omega
            have n1 : ¬ st.1 > st.1 := by omega
            simp only [c2, n1, if_true, if_false, hl]
            have := ih (st.1, st.2 ++ [s]) (by simp; omega)
            rw [toI_append] at this
            exact this
          · simp only [c1, c2, if_false]
            exact ih st (by omega)
      · have c' : ¬ ((tones n s).length : Int) = (k : Int) := by omega
        simp only [c', if_false]
        rw [if_neg c]
        exact ih st (by omega)
theorem rMost_f (n k : Nat) (h : isPart n k = true) : Ev (fun q => sackbutref03_Most.f q n k) (toI (mostList n k)) := by
  obtain ⟨h1, h2, h3, h4⟩ := of_decide_eq_true h
  have hpos := Nat.two_pow_pos n
  exact rMost_l0 n k (by omega) (by omega) (2 ^ n - 1) 1 (-1, []) (Nat.le_refl _) (by omega) (by simp)

theorem list_small (n k : Nat) (h2 : n ≤ 16) : (toI (evenList n k)).length < 100000 := by
  have hp := pow_lt n h2
  have := kSets_length n k (2 ^ n - 1) 1
  have h3 : (evenList n k).length ≤ (allSets n k).length := List.length_filter_le _ _
  have h4 : (allSets n k).length ≤ 2 ^ n - 1 := this
  rw [toI_length]
  omega
theorem most_small (n k : Nat) (h2 : n ≤ 16) : (toI (mostList n k)).length < 100000 := by
  have hp := pow_lt n h2
  have h4 : (allSets n k).length ≤ 2 ^ n - 1 := kSets_length n k (2 ^ n - 1) 1
  have h3 := mostFrom_length n (allSets n k) (-1, [])
  rw [toI_length]
  unfold mostList
  simp at h3
  omega

end Go.Proofs.Ythbcdmbicfmeaaa.Base5
