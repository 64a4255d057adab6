/- Texts that the proof of TriadsDuals needs, put together in build order by this session's program (wip/tools/claimtrim.py). -/
import Derived.Test.YtpaeobpmkdekfaaDoorTriadsDualsM8
import Derived.Test.YtpaeobpmkdekfaaDoorTriadsDualsM10
import Derived.Test.YtpaeobpmkdekfaaDoorTriadsDualsM13
section
namespace Go.Proofs.YtpaeobpmkdekfaaDoor.Base
open Go.RowKit Go.Proofs.YtpaeobpmkdekfaaDoor.P Go.Proofs.YtpaeobpmkdekfaaDoor.Kit Go.Proofs.YtpaeobpmkdekfaaDoorW.PrintWords Go.Proofs.YtpaeobpmkdekfaaDoorW.PrintLast Go.Proofs.YtpaeobpmkdekfaaDoor.Tri
theorem kind_pos' {n a b : Int} (hk : isKind n a b = true) : 0 < n := by
  have := (of_decide_eq_true hk).1
  omega
/-- A walk's text, cut where it is long, is the walk itself or none. -/
theorem text_f (s : ByteArray) : ∃ tx, sackbutlaw04_text.f s = some tx ∧ (isWalkB s = true → tx = s) ∧ isWalkB tx = isWalkB s := by
  by_cases h70 : s.size ≤ 70
  · exact ⟨s, text_short s h70, fun _ => rfl, rfl⟩
  · obtain ⟨x, h1, h2⟩ := text_long s (by omega)
    have f1 : isWalkB s = false := by unfold isWalkB; rw [decide_eq_false (by omega), Bool.false_and]
    have f2 : isWalkB x = false := by unfold isWalkB; rw [decide_eq_false (by omega), Bool.false_and]
    exact ⟨x, h1, (fun h => by rw [f1] at h; cases h), by rw [f1, f2]⟩
theorem isWalk_f (s : ByteArray) : triads_isWalk.f s = some (isWalkB s) := rfl
theorem isWalk_size {s : ByteArray} (h : isWalkB s = true) : s.size ≤ 60 := by
  unfold isWalkB at h
  rw [Bool.and_eq_true] at h
  exact of_decide_eq_true h.1
theorem kwalk_f {n a b : Int} (hk : isKind n a b = true) (s : ByteArray) (hs : s.size ≤ 1000000) (t : Int) (h0 : 0 ≤ t) (h1 : t < 2 * n) : triads_Kind_walk.f n a b t s = some (walkI n a b s.data.toList t) := by
  unfold triads_Kind_walk.f
  rw [if_pos (by omega), walk_go hk _ t h0 h1]
theorem walk_f (n a b t : Int) (s : ByteArray) (hn : Int64 n) (ha : Int64 a) (hb : Int64 b) : triads_Walk.f n a b t s = some (if (isKind n a b && isTri n t) = true then (if isWalkB s = true then (walkI n a b s.data.toList t, 0) else (0, 3)) else (0, 2)) := by
  unfold triads_Walk.f
  rw [isTriad_f n a b t hn ha hb]
  simp only [Option.bind_some]
  cases hk : (isKind n a b && isTri n t) with
  | false => rfl
  | true =>
    obtain ⟨hk1, hk2⟩ := Bool.and_eq_true_iff.1 hk
    have ht := of_decide_eq_true hk2
    simp only [if_true, isWalk_f, Option.bind_some]
    cases hw : isWalkB s with
    | false => rfl
    | true =>
      simp only [if_true]
      rw [kwalk_f hk1 s (by have := isWalk_size hw; omega) t ht.1 ht.2]
      rfl
/-- Whether two walks do the same to every triad. -/
def same (n a b : Int) (l m : List UInt8) : Bool := decide (odd l = odd m ∧ alt a b l % n = alt a b m % n)
theorem same_iff {n a b : Int} (hn : 0 < n) (l m : List UInt8) (t : Int) (h0 : 0 ≤ t) (h1 : t < 2 * n) : same n a b l m = decide (walkI n a b l t = walkI n a b m t) := by
  unfold same
  by_cases h : walkI n a b l t = walkI n a b m t
  · rw [decide_eq_true h, decide_eq_true ((walk_eq_iff hn a b l m t h0 h1).1 h)]
  · rw [decide_eq_false h, decide_eq_false (fun g => h ((walk_eq_iff hn a b l m t h0 h1).2 g))]
theorem alike_f {n a b : Int} (hk : isKind n a b = true) (x y : ByteArray) (hx : x.size ≤ 1000000) (hy : y.size ≤ 1000000) : triads_Kind_alike.f n a b x y = some (same n a b x.data.toList y.data.toList) := by
  have hn := kind_pos' hk
  unfold triads_Kind_alike.f
  rw [kwalk_f hk x hx 0 (by omega) (by omega), kwalk_f hk y hy 0 (by omega) (by omega), kwalk_f hk x hx n (by omega) (by omega), kwalk_f hk y hy n (by omega) (by omega)]
  simp only [Option.bind_some]
  have e0 := same_iff (a := a) (b := b) hn x.data.toList y.data.toList 0 (by omega) (by omega)
  have e1 := same_iff (a := a) (b := b) hn x.data.toList y.data.toList n (by omega) (by omega)
  by_cases h : walkI n a b x.data.toList 0 = walkI n a b y.data.toList 0
  · rw [if_pos h, e1]
    congr 1
  · rw [if_neg h, e0, decide_eq_false h]
theorem Alike_f (n a b : Int) (x y : ByteArray) (hn : Int64 n) (ha : Int64 a) (hb : Int64 b) : triads_Alike.f n a b x y = some (if isKind n a b = true then (if isWalkB x = true ∧ isWalkB y = true then (same n a b x.data.toList y.data.toList, 0) else (false, 3)) else (false, 2)) := by
  unfold triads_Alike.f
  rw [valid_f n a b hn ha hb]
  simp only [Option.bind_some]
  cases hk : isKind n a b with
  | false => rfl
  | true =>
    simp only [if_true, isWalk_f, Option.bind_some]
    cases hx : isWalkB x with
    | false => simp
    | true =>
      cases hy : isWalkB y with
      | false => simp
      | true =>
        simp only [if_true, and_self]
        rw [alike_f hk x y (by have := isWalk_size hx; omega) (by have := isWalk_size hy; omega)]
        rfl
/-- A walk's order: the least number of times that do nothing. -/
structure IsOrd (n a b : Int) (l : List UInt8) (m : Nat) : Prop where
  pos : 1 ≤ m
  small : m ≤ 32
  id : same n a b (Lib.repeatL l m) [] = true
  least : ∀ k, 1 ≤ k → k < m → same n a b (Lib.repeatL l k) [] = false
theorem IsOrd.eq {n a b : Int} {l : List UInt8} {m k : Nat} (h : IsOrd n a b l m) (g : IsOrd n a b l k) : m = k := by
  rcases Nat.lt_trichotomy m k with e | e | e
  · have := g.least m h.pos e
    rw [h.id] at this; cases this
  · exact e
  · have := h.least k g.pos e
    rw [g.id] at this; cases this
theorem rep_even (a b : Int) (l : List UInt8) (h : odd l = false) : ∀ k : Nat, odd (Lib.repeatL l k) = false ∧ alt a b (Lib.repeatL l k) = (k : Int) * alt a b l
  | 0 => by simp [Lib.repeatL, odd, alt]
  | k + 1 => by
    obtain ⟨h1, h2⟩ := rep_even a b l h k
    have e : Lib.repeatL l (k + 1) = l ++ Lib.repeatL l k := rfl
    rw [e, odd_append, alt_append, h, h1, h2]
    refine ⟨rfl, ?_⟩
    rw [if_neg (by decide), show ((k + 1 : Nat) : Int) = 1 + (k : Int) by omega, Int.add_mul, Int.one_mul]
theorem rep_odd (a b : Int) (l : List UInt8) (h : odd l = true) : odd (Lib.repeatL l 2) = false ∧ alt a b (Lib.repeatL l 2) = 0 := by
  have e : Lib.repeatL l 2 = l ++ l := by
    show l ++ (l ++ []) = _
    rw [List.append_nil]
  rw [e, odd_append, alt_append, h, if_pos rfl]
  exact ⟨rfl, by omega⟩
theorem ord_two {n a b : Int} (l : List UInt8) (h : odd l = true) : IsOrd n a b l 2 where
  pos := by omega
  small := by omega
  id := by
    obtain ⟨h1, h2⟩ := rep_odd a b l h
    exact decide_eq_true ⟨h1, by rw [h2]; rfl⟩
  least := by
    intro k h1 h2
    obtain rfl : k = 1 := by omega
    rw [Lib.repeatL_one]
    refine decide_eq_false ?_
    rintro ⟨g, _⟩
    rw [h] at g
    cases g
theorem ord_ex {n a b : Int} (hk : isKind n a b = true) (l : List UInt8) : ∃ m, IsOrd n a b l m := by
  have hn := kind_pos' hk
  have h16 := (of_decide_eq_true hk).2.1
  have hex : ∃ m : Nat, 1 ≤ m ∧ m ≤ 32 ∧ same n a b (Lib.repeatL l m) [] = true := by
    cases ho : odd l with
    | true => exact ⟨2, by omega, by omega, (ord_two (n := n) (a := a) (b := b) l ho).id⟩
    | false =>
      refine ⟨n.toNat, by omega, by omega, decide_eq_true ?_⟩
      obtain ⟨h1, h2⟩ := rep_even a b l ho n.toNat
      refine ⟨h1, ?_⟩
      rw [h2, show ((n.toNat : Nat) : Int) = n by omega, Int.mul_emod_right]
      rfl
  have key : ∀ d : Nat, ∀ m : Nat, m ≤ d → 1 ≤ m → m ≤ 32 → same n a b (Lib.repeatL l m) [] = true → ∃ m, IsOrd n a b l m := by
    intro d
    induction d with
    | zero => intro m h1 h2; omega
    | succ d ih =>
      intro m h1 h2 h3 h4
      by_cases hl : ∀ k, 1 ≤ k → k < m → same n a b (Lib.repeatL l k) [] = false
      · exact ⟨m, h2, h3, h4, hl⟩
      · simp only [Classical.not_forall] at hl
        obtain ⟨k, g1, g2, g3⟩ := hl
        exact ih k (by omega) g1 (by omega) (by simpa using g3)
  obtain ⟨m, h1, h2, h3⟩ := hex
  exact key m m (Nat.le_refl _) h1 h2 h3
theorem repeat_f (s : ByteArray) (hs : s.size ≤ 60) (k : Nat) (hk : k ≤ 32) : strings_Repeat.f s (k : Int) = some ⟨(Lib.repeatL s.data.toList k).toArray⟩ := by
  unfold strings_Repeat.f
  have h2 : s.size * k ≤ 60 * 32 := Nat.mul_le_mul hs hk
  rw [if_pos ⟨by omega, by omega, by rw [Int.toNat_natCast]; omega⟩, Int.toNat_natCast]
theorem repeat_size (s : ByteArray) (hs : s.size ≤ 60) (k : Nat) (hk : k ≤ 32) : (⟨(Lib.repeatL s.data.toList k).toArray⟩ : ByteArray).size ≤ 1920 := by
  show (Lib.repeatL s.data.toList k).toArray.size ≤ _
  rw [List.size_toArray, Lib.repeatL_length, data_length]
  have h2 : k * s.size ≤ 32 * 60 := Nat.mul_le_mul hk hs
  omega
theorem order_l0 {n a b : Int} (hk : isKind n a b = true) (s : ByteArray) (hs : s.size ≤ 60) (m : Nat) (h : IsOrd n a b s.data.toList m) : ∀ d i : Nat, 1 ≤ i → i + d = m → Ev (fun k => triads_Order.l0 k s (i : Int) n a b) ((m : Int), 0)
  | 0, i, h1, h2 => by
    obtain rfl : i = m := by omega
    have h32 := h.small
    refine Ev.done fun k => ?_
    simp only [triads_Order.l0]
    rw [repeat_f s hs i h32]
    simp only [Option.bind_some]
    rw [alike_f hk _ _ (Nat.le_trans (repeat_size s hs i h32) (by omega)) (by decide)]
    simp only [Option.bind_some]
    rw [h.id]
    rfl
  | d + 1, i, h1, h2 => by
    have h32 := h.small
    have h3 : i ≤ 32 := by omega
    refine Ev.step (fun k => ?_) (order_l0 hk s hs m h d (i + 1) (by omega) (by omega))
    simp only [triads_Order.l0]
    rw [repeat_f s hs i h3]
    simp only [Option.bind_some]
    rw [alike_f hk _ _ (Nat.le_trans (repeat_size s hs i h3) (by omega)) (by decide)]
    simp only [Option.bind_some]
    rw [h.least i h1 (by omega), if_neg (by decide), w64 (by omega) (by omega)]
    rfl
theorem Order_f {n a b : Int} (hk : isKind n a b = true) (s : ByteArray) (hw : isWalkB s = true) (hn : Int64 n) (ha : Int64 a) (hb : Int64 b) (m : Nat) (h : IsOrd n a b s.data.toList m) : Ev (fun k => triads_Order.f k n a b s) ((m : Int), 0) := by
  unfold triads_Order.f
  rw [valid_f n a b hn ha hb]
  simp only [Option.bind_some, hk, isWalk_f, hw, if_true]
  exact order_l0 hk s (isWalk_size hw) m h (m - 1) 1 (by omega) (by have := h.pos; omega)
end Go.Proofs.YtpaeobpmkdekfaaDoor.Base
end

section
namespace Go.Proofs.YtpaeobpmkdekfaaDoor.Pure
open Go.RowKit Go.Proofs.YtpaeobpmkdekfaaDoor.P Go.Proofs.YtpaeobpmkdekfaaDoor.Kit Go.Proofs.YtpaeobpmkdekfaaDoor.Base Go.Proofs.YtpaeobpmkdekfaaDoorW.PrintWords Go.Proofs.YtpaeobpmkdekfaaDoorW.PrintLast Go.Proofs.YtpaeobpmkdekfaaDoor.Tri
theorem TriadsDuals (a0 a1 a2 b1 : Int) (b2 : ByteArray) (b3 : Int) (b4 : Bool) (w0 : (Lit.int .i64 a0).wf = true) (w1 : (Lit.int .i64 a1).wf = true) (w2 : (Lit.int .i64 a2).wf = true) (_wb1 : (Lit.int .i64 b1).wf = true) (wb2 : b2.size ≤ maxLen) (_wb3 : (Lit.int .i64 b3).wf = true) : ∃ k, P.sackbutlaw04_TriadsDuals.f k a0 a1 a2 b1 b2 b3 b4 = some true := by
  have hn := int64_of w0
  have ha := int64_of w1
  have hb := int64_of w2
  have hs : b2.size < 9223372036854775808 := by unfold maxLen at wb2; omega
  obtain ⟨tx, htx, hsame, hsw⟩ := text_f b2
  refine Ev.rounds ?_
  unfold P.sackbutlaw04_TriadsDuals.f
  simp only [sackbutlaw04_Of.f, Option.bind_some, htx, walk_f _ _ _ _ _ hn ha hb]
  refine Ev.bind (fine_f a0 a1 a2 b1 hn ha hb) ?_
  cases hk : (isKind a0 a1 a2 && isTri a0 b1) with
  | false =>
    simp only [Bool.false_eq_true, if_false]
    refine Ev.done fun k => ?_
    simp [P.sackbutlaw04_TriadsDuals.j0, awake_f]
  | true =>
    obtain ⟨hk1, hk2⟩ := Bool.and_eq_true_iff.1 hk
    have ht := of_decide_eq_true hk2
    have hn0 := kind_pos' hk1
    simp only [if_true]
    refine Ev.bind (rIsWalk_f b2 hs) ?_
    rw [hsw]
    cases hw : isWalkB b2 with
    | false =>
      simp only [Bool.false_eq_true, if_false]
      refine Ev.done fun k => ?_
      simp [P.sackbutlaw04_TriadsDuals.j0, awake_f]
    | true =>
      obtain rfl := hsame hw
      simp only [if_true]
      have hwr := walk_range hn0 a1 a2 tx.data.toList b1 ht.1 ht.2
      have hwt : isTri a0 (walkI a0 a1 a2 tx.data.toList b1) = true := decide_eq_true hwr
      have hsr := shift_range hn0 b1 b3 b4
      have hst : isTri a0 (shiftI a0 b1 b3 b4) = true := decide_eq_true hsr
      have hemp : isWalkB (⟨#[]⟩ : ByteArray) = true := by decide
      have hcomm := walk_shift hn0 a1 a2 tx.data.toList b1 b3 b4 ht.1 ht.2
      have hsi := same_iff (a := a1) (b := a2) hn0 tx.data.toList [] b1 ht.1 ht.2
      obtain ⟨m, hm⟩ := ord_ex hk1 tx.data.toList
      have hpar : odd tx.data.toList = true → m = 2 := fun ho => hm.eq (ord_two _ ho)
      have hone : same a0 a1 a2 tx.data.toList [] = decide (m = 1) := by
        by_cases h1 : m = 1
        · rw [decide_eq_true h1]
          have := hm.id
          rw [h1, Lib.repeatL_one] at this
          exact this
        · rw [decide_eq_false h1]
          have := hm.least 1 (by omega) (by have := hm.pos; omega)
          rw [Lib.repeatL_one] at this
          exact this
      refine Ev.step (f := fun k => (triads_Order.f k a0 a1 a2 tx).bind fun v => if v.2 = 0 then (if (decide (m = 1) == (v.1 == 1)) = true then (if ((tx.size : Int) % 2) = 0 then some true else (if v.1 = 2 then some true else some false)) else some false) else some false) (fun k => ?_) (Ev.bind (Order_f hk1 tx hw hn ha hb m hm) ?_)
      · simp only [P.sackbutlaw04_TriadsDuals.j0]
        rw [if_neg (by decide)]
        simp only [sackbutlaw04_Of.f, Option.bind_some, shift_f _ _ _ hn ha hb, walk_f _ _ _ _ _ hn ha hb, Alike_f _ _ _ _ _ hn ha hb, hk1, hk2, hwt, hst, hw, hemp, Bool.and_self, if_true, and_self, awake_f, hcomm]
        have e2 : ((same a0 a1 a2 tx.data.toList []) == (walkI a0 a1 a2 tx.data.toList b1 == b1)) = true := by
          rw [hsi]
          have : walkI a0 a1 a2 [] b1 = b1 := rfl
          rw [this]
          by_cases h : walkI a0 a1 a2 tx.data.toList b1 = b1
          · rw [decide_eq_true h, h]; simp
          · rw [decide_eq_false h]; simp [h]
        rw [hone] at e2
        simp only [hone, e2, if_true]
      · simp only [if_true]
        have e4 : (decide (m = 1) == ((m : Int) == 1)) = true := by
          by_cases h : m = 1
          · subst h; rfl
          · rw [decide_eq_false h]
            simp
            omega
        rw [e4]
        simp only [if_true]
        by_cases he : ((tx.size : Int) % 2) = 0
        · simp only [he, if_true]
          exact Ev.now _
        · have ho : odd tx.data.toList = true := by
            rw [odd_length, data_length]
            exact decide_eq_true (by omega)
          simp only [he, if_false, hpar ho]
          exact Ev.now _
end Go.Proofs.YtpaeobpmkdekfaaDoor.Pure
end
