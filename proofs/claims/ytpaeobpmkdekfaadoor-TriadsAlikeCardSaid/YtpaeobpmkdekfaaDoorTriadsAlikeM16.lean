/- Texts that the proof of TriadsAlike needs, put together in build order by this session's program (wip/tools/claimtrim.py). -/
import Derived.Test.YtpaeobpmkdekfaaDoorTriadsAlikeM8
import Derived.Test.YtpaeobpmkdekfaaDoorTriadsAlikeM10
import Derived.Test.YtpaeobpmkdekfaaDoorTriadsAlikeM14
import Derived.Test.YtpaeobpmkdekfaaDoorTriadsAlikeM5
section
namespace Go.Proofs.YtpaeobpmkdekfaaDoor.Base
open Go.RowKit Go.Proofs.YtpaeobpmkdekfaaDoor.P Go.Proofs.YtpaeobpmkdekfaaDoor.Kit Go.Proofs.YtpaeobpmkdekfaaDoorW.PrintWords Go.Proofs.YtpaeobpmkdekfaaDoorW.PrintLast Go.Proofs.YtpaeobpmkdekfaaDoor.Tri
theorem kind_pos' {n a b : Int} (hk : isKind n a b = true) : 0 < n := by
  have := (of_decide_eq_true hk).1
  omega
/-- A walk's text, cut where it is long, is the walk itself or none. -/
theorem text_f (s : ByteArray) : ∃ tx, sackbutlaw04_text.f s = some tx ∧ (isWalkB s = true → tx = s) ∧ isWalkB tx = isWalkB s := by
  by_cases h70 : s.size ≤ 70
  · exact ⟨s, text_short s h70, fun _ => rfl, rfl⟩
  · obtain ⟨x, h1, h2⟩ := text_long s (by omega)
    have f1 : isWalkB s = false := by unfold isWalkB; rw [decide_eq_false (by omega), Bool.false_and]
    have f2 : isWalkB x = false := by unfold isWalkB; rw [decide_eq_false (by omega), Bool.false_and]
    exact ⟨x, h1, (fun h => by rw [f1] at h; cases h), by rw [f1, f2]⟩
theorem isWalk_f (s : ByteArray) : triads_isWalk.f s = some (isWalkB s) := rfl
theorem isWalk_size {s : ByteArray} (h : isWalkB s = true) : s.size ≤ 60 := by
  unfold isWalkB at h
  rw [Bool.and_eq_true] at h
  exact of_decide_eq_true h.1
theorem kwalk_f {n a b : Int} (hk : isKind n a b = true) (s : ByteArray) (hs : s.size ≤ 1000000) (t : Int) (h0 : 0 ≤ t) (h1 : t < 2 * n) : triads_Kind_walk.f n a b t s = some (walkI n a b s.data.toList t) := by
  unfold triads_Kind_walk.f
  rw [if_pos (by omega), walk_go hk _ t h0 h1]
/-- Whether two walks do the same to every triad. -/
def same (n a b : Int) (l m : List UInt8) : Bool := decide (odd l = odd m ∧ alt a b l % n = alt a b m % n)
theorem same_iff {n a b : Int} (hn : 0 < n) (l m : List UInt8) (t : Int) (h0 : 0 ≤ t) (h1 : t < 2 * n) : same n a b l m = decide (walkI n a b l t = walkI n a b m t) := by
  unfold same
  by_cases h : walkI n a b l t = walkI n a b m t
  · rw [decide_eq_true h, decide_eq_true ((walk_eq_iff hn a b l m t h0 h1).1 h)]
  · rw [decide_eq_false h, decide_eq_false (fun g => h ((walk_eq_iff hn a b l m t h0 h1).2 g))]
theorem alike_f {n a b : Int} (hk : isKind n a b = true) (x y : ByteArray) (hx : x.size ≤ 1000000) (hy : y.size ≤ 1000000) : triads_Kind_alike.f n a b x y = some (same n a b x.data.toList y.data.toList) := by
  have hn := kind_pos' hk
  unfold triads_Kind_alike.f
  rw [kwalk_f hk x hx 0 (by omega) (by omega), kwalk_f hk y hy 0 (by omega) (by omega), kwalk_f hk x hx n (by omega) (by omega), kwalk_f hk y hy n (by omega) (by omega)]
  simp only [Option.bind_some]
  have e0 := same_iff (a := a) (b := b) hn x.data.toList y.data.toList 0 (by omega) (by omega)
  have e1 := same_iff (a := a) (b := b) hn x.data.toList y.data.toList n (by omega) (by omega)
  by_cases h : walkI n a b x.data.toList 0 = walkI n a b y.data.toList 0
  · rw [if_pos h, e1]
    congr 1
  · rw [if_neg h, e0, decide_eq_false h]
theorem Alike_f (n a b : Int) (x y : ByteArray) (hn : Int64 n) (ha : Int64 a) (hb : Int64 b) : triads_Alike.f n a b x y = some (if isKind n a b = true then (if isWalkB x = true ∧ isWalkB y = true then (same n a b x.data.toList y.data.toList, 0) else (false, 3)) else (false, 2)) := by
  unfold triads_Alike.f
  rw [valid_f n a b hn ha hb]
  simp only [Option.bind_some]
  cases hk : isKind n a b with
  | false => rfl
  | true =>
    simp only [if_true, isWalk_f, Option.bind_some]
    cases hx : isWalkB x with
    | false => simp
    | true =>
      cases hy : isWalkB y with
      | false => simp
      | true =>
        simp only [if_true, and_self]
        rw [alike_f hk x y (by have := isWalk_size hx; omega) (by have := isWalk_size hy; omega)]
        rfl
/-- A walk's order: the least number of times that do nothing. -/
structure IsOrd (n a b : Int) (l : List UInt8) (m : Nat) : Prop where
  pos : 1 ≤ m
  small : m ≤ 32
  id : same n a b (Lib.repeatL l m) [] = true
  least : ∀ k, 1 ≤ k → k < m → same n a b (Lib.repeatL l k) [] = false
theorem rep_even (a b : Int) (l : List UInt8) (h : odd l = false) : ∀ k : Nat, odd (Lib.repeatL l k) = false ∧ alt a b (Lib.repeatL l k) = (k : Int) * alt a b l
  | 0 => by simp [Lib.repeatL, odd, alt]
  | k + 1 => by
    obtain ⟨h1, h2⟩ := rep_even a b l h k
    have e : Lib.repeatL l (k + 1) = l ++ Lib.repeatL l k := rfl
    rw [e, odd_append, alt_append, h, h1, h2]
    refine ⟨rfl, ?_⟩
    rw [if_neg (by decide), show ((k + 1 : Nat) : Int) = 1 + (k : Int) by omega, Int.add_mul, Int.one_mul]
theorem rep_odd (a b : Int) (l : List UInt8) (h : odd l = true) : odd (Lib.repeatL l 2) = false ∧ alt a b (Lib.repeatL l 2) = 0 := by
  have e : Lib.repeatL l 2 = l ++ l := by
    show l ++ (l ++ []) = _
    rw [List.append_nil]
  rw [e, odd_append, alt_append, h, if_pos rfl]
  exact ⟨rfl, by omega⟩
theorem ord_two {n a b : Int} (l : List UInt8) (h : odd l = true) : IsOrd n a b l 2 where
  pos := by omega
  small := by omega
  id := by
    obtain ⟨h1, h2⟩ := rep_odd a b l h
    exact decide_eq_true ⟨h1, by rw [h2]; rfl⟩
  least := by
    intro k h1 h2
    obtain rfl : k = 1 := by omega
    rw [Lib.repeatL_one]
    refine decide_eq_false ?_
    rintro ⟨g, _⟩
    rw [h] at g
    cases g
theorem ord_ex {n a b : Int} (hk : isKind n a b = true) (l : List UInt8) : ∃ m, IsOrd n a b l m := by
  have hn := kind_pos' hk
  have h16 := (of_decide_eq_true hk).2.1
  have hex : ∃ m : Nat, 1 ≤ m ∧ m ≤ 32 ∧ same n a b (Lib.repeatL l m) [] = true := by
    cases ho : odd l with
    | true => exact ⟨2, by omega, by omega, (ord_two (n := n) (a := a) (b := b) l ho).id⟩
    | false =>
      refine ⟨n.toNat, by omega, by omega, decide_eq_true ?_⟩
      obtain ⟨h1, h2⟩ := rep_even a b l ho n.toNat
      refine ⟨h1, ?_⟩
      rw [h2, show ((n.toNat : Nat) : Int) = n by omega, Int.mul_emod_right]
      rfl
  have key : ∀ d : Nat, ∀ m : Nat, m ≤ d → 1 ≤ m → m ≤ 32 → same n a b (Lib.repeatL l m) [] = true → ∃ m, IsOrd n a b l m := by
    intro d
    induction d with
    | zero => intro m h1 h2; omega
    | succ d ih =>
      intro m h1 h2 h3 h4
      by_cases hl : ∀ k, 1 ≤ k → k < m → same n a b (Lib.repeatL l k) [] = false
      · exact ⟨m, h2, h3, h4, hl⟩
      · simp only [Classical.not_forall] at hl
        obtain ⟨k, g1, g2, g3⟩ := hl
        exact ih k (by omega) g1 (by omega) (by simpa using g3)
  obtain ⟨m, h1, h2, h3⟩ := hex
  exact key m m (Nat.le_refl _) h1 h2 h3
theorem repeat_f (s : ByteArray) (hs : s.size ≤ 60) (k : Nat) (hk : k ≤ 32) : strings_Repeat.f s (k : Int) = some ⟨(Lib.repeatL s.data.toList k).toArray⟩ := by
  unfold strings_Repeat.f
  have h2 : s.size * k ≤ 60 * 32 := Nat.mul_le_mul hs hk
  rw [if_pos ⟨by omega, by omega, by rw [Int.toNat_natCast]; omega⟩, Int.toNat_natCast]
theorem repeat_size (s : ByteArray) (hs : s.size ≤ 60) (k : Nat) (hk : k ≤ 32) : (⟨(Lib.repeatL s.data.toList k).toArray⟩ : ByteArray).size ≤ 1920 := by
  show (Lib.repeatL s.data.toList k).toArray.size ≤ _
  rw [List.size_toArray, Lib.repeatL_length, data_length]
  have h2 : k * s.size ≤ 32 * 60 := Nat.mul_le_mul hk hs
  omega
theorem order_l0 {n a b : Int} (hk : isKind n a b = true) (s : ByteArray) (hs : s.size ≤ 60) (m : Nat) (h : IsOrd n a b s.data.toList m) : ∀ d i : Nat, 1 ≤ i → i + d = m → Ev (fun k => triads_Order.l0 k s (i : Int) n a b) ((m : Int), 0)
  | 0, i, h1, h2 => by
    obtain rfl : i = m := by omega
    have h32 := h.small
    refine Ev.done fun k => ?_
    simp only [triads_Order.l0]
    rw [repeat_f s hs i h32]
    simp only [Option.bind_some]
    rw [alike_f hk _ _ (Nat.le_trans (repeat_size s hs i h32) (by omega)) (by decide)]
    simp only [Option.bind_some]
    rw [h.id]
    rfl
  | d + 1, i, h1, h2 => by
    have h32 := h.small
    have h3 : i ≤ 32 := by omega
    refine Ev.step (fun k => ?_) (order_l0 hk s hs m h d (i + 1) (by omega) (by omega))
    simp only [triads_Order.l0]
    rw [repeat_f s hs i h3]
    simp only [Option.bind_some]
    rw [alike_f hk _ _ (Nat.le_trans (repeat_size s hs i h3) (by omega)) (by decide)]
    simp only [Option.bind_some]
    rw [h.least i h1 (by omega), if_neg (by decide), w64 (by omega) (by omega)]
    rfl
theorem Order_f {n a b : Int} (hk : isKind n a b = true) (s : ByteArray) (hw : isWalkB s = true) (hn : Int64 n) (ha : Int64 a) (hb : Int64 b) (m : Nat) (h : IsOrd n a b s.data.toList m) : Ev (fun k => triads_Order.f k n a b s) ((m : Int), 0) := by
  unfold triads_Order.f
  rw [valid_f n a b hn ha hb]
  simp only [Option.bind_some, hk, isWalk_f, hw, if_true]
  exact order_l0 hk s (isWalk_size hw) m h (m - 1) 1 (by omega) (by have := h.pos; omega)
theorem Order_not {n a b : Int} (s : ByteArray) (hw : (isKind n a b && isWalkB s) = false) (hn : Int64 n) (ha : Int64 a) (hb : Int64 b) : Ev (fun k => triads_Order.f k n a b s) (0, if isKind n a b = true then 3 else 2) := by
  unfold triads_Order.f
  rw [valid_f n a b hn ha hb]
  simp only [Option.bind_some]
  cases hk : isKind n a b with
  | false =>
    simp only [Bool.false_eq_true, if_false]
    exact Ev.now _
  | true =>
    rw [hk, Bool.true_and] at hw
    simp only [if_true, isWalk_f, hw, Option.bind_some, Bool.false_eq_true, if_false]
    exact Ev.now _
end Go.Proofs.YtpaeobpmkdekfaaDoor.Base
end

section
namespace Go.Proofs.YtpaeobpmkdekfaaDoor.Base
open Go.RowKit Go.Proofs.YtpaeobpmkdekfaaDoor.P Go.Proofs.YtpaeobpmkdekfaaDoor.Kit Go.Proofs.YtpaeobpmkdekfaaDoorW.PrintWords Go.Proofs.YtpaeobpmkdekfaaDoorW.PrintLast Go.Proofs.YtpaeobpmkdekfaaDoor.Tri
theorem rWalk_f {n a b : Int} (hk : isKind n a b = true) (s : ByteArray) (hs : s.size < 9223372036854775808) (t : Int) (h0 : 0 ≤ t) (h1 : t < 2 * n) : Ev (fun k => sackbutref04_Walk.f k n a b t s) (walkI n a b s.data.toList t) := by
  have hr := rWalk_l0 hk s hs s.size 0 t (by omega) h0 h1
  rw [List.drop_zero] at hr
  exact hr
theorem rAlike_l0 {n a b : Int} (hk : isKind n a b = true) (x y : ByteArray) (hx : x.size < 9223372036854775808) (hy : y.size < 9223372036854775808) : ∀ d i : Nat, i + d = (2 * n).toNat → (0 < i → same n a b x.data.toList y.data.toList = true) → Ev (fun k => sackbutref04_Alike.l0 k x y (2 * n) (i : Int) n a b) (same n a b x.data.toList y.data.toList)
  | 0, i, h, hs => by
    have hn := kind_pos' hk
    rw [hs (by omega)]
    refine Ev.done fun k => ?_
    simp only [sackbutref04_Alike.l0]
    rw [if_neg (by omega)]
  | d + 1, i, h, hs => by
    have hn := kind_pos' hk
    have h16 := (of_decide_eq_true hk).2.1
    have hx1 := rWalk_f hk x hx (i : Int) (by omega) (by omega)
    have hy1 := rWalk_f hk y hy (i : Int) (by omega) (by omega)
    have hsm := same_iff (a := a) (b := b) hn x.data.toList y.data.toList (i : Int) (by omega) (by omega)
    refine Ev.step (f := fun k => (sackbutref04_Walk.f k n a b (i : Int) x).bind fun t455 => ((sackbutref04_Walk.f k n a b (i : Int) y).bind fun t456 => (if t455 = t456 then (sackbutref04_Alike.l0 k x y (2 * n) (wrap64 ((i : Int) + 1)) n a b) else (some false)))) (fun k => ?_) (Ev.bind hx1 (Ev.bind hy1 ?_))
    · simp only [sackbutref04_Alike.l0]
      rw [if_pos (by omega)]
    · by_cases e : walkI n a b x.data.toList (i : Int) = walkI n a b y.data.toList (i : Int)
      · have ih := rAlike_l0 hk x y hx hy d (i + 1) (by omega) (fun _ => by rw [hsm]; exact decide_eq_true e)
        simp only [e, if_true]
        rw [w64 (x := (i : Int) + 1) (by omega) (by omega)]
        exact ih
      · simp only [e, if_false]
        rw [hsm, decide_eq_false e]
        exact Ev.now _
theorem rAlike_f {n a b : Int} (hk : isKind n a b = true) (x y : ByteArray) (hx : x.size < 9223372036854775808) (hy : y.size < 9223372036854775808) : Ev (fun k => sackbutref04_Alike.f k n a b x y) (same n a b x.data.toList y.data.toList) := by
  have hn := kind_pos' hk
  have h16 := (of_decide_eq_true hk).2.1
  unfold sackbutref04_Alike.f
  rw [w64 (x := 2 * n) (by omega) (by omega)]
  exact rAlike_l0 hk x y hx hy (2 * n).toNat 0 (by omega) (fun h => by omega)
/-- Where the triads are after so many walks, those below j one walk further. -/
def atL (n a b : Int) (l : List UInt8) (k j : Nat) : List Int := (List.range (2 * n).toNat).map fun (t : Nat) => if t < j then walkI n a b (Lib.repeatL l (k + 1)) (t : Int) else walkI n a b (Lib.repeatL l k) (t : Int)
theorem atL_length (n a b : Int) (l : List UInt8) (k j : Nat) : (atL n a b l k j).length = (2 * n).toNat := by simp [atL]
theorem atL_rd (n a b : Int) (l : List UInt8) (k j : Nat) (h : j < (2 * n).toNat) : rd (atL n a b l k j) (j : Int) = walkI n a b (Lib.repeatL l k) (j : Int) := by
  rw [rd_nat _ _ (by rw [atL_length]; exact h)]
  unfold atL
  rw [List.getElem_map, List.getElem_range, if_neg (by omega)]
theorem atL_start (n a b : Int) (l : List UInt8) (k j : Nat) (h : j < (atL n a b l k 0).length) : (atL n a b l k 0)[j] = walkI n a b (Lib.repeatL l k) (j : Int) := by
  have hl : j < (2 * n).toNat := by rw [atL_length] at h; exact h
  have e : (atL n a b l k 0)[j]? = some (walkI n a b (Lib.repeatL l k) (j : Int)) := by
    unfold atL
    rw [List.getElem?_map, List.getElem?_range hl]
    rfl
  rw [List.getElem?_eq_getElem h] at e
  exact Option.some.inj e
theorem atL_set (n a b : Int) (l : List UInt8) (k j : Nat) (h : j < (2 * n).toNat) : (atL n a b l k j).set j (walkI n a b (Lib.repeatL l (k + 1)) (j : Int)) = atL n a b l k (j + 1) := by
  refine List.ext_getElem? fun i => ?_
  by_cases hi : i < (2 * n).toNat
  · have g : ∀ jj, (atL n a b l k jj)[i]? = some (if i < jj then walkI n a b (Lib.repeatL l (k + 1)) (i : Int) else walkI n a b (Lib.repeatL l k) (i : Int)) := by
      intro jj
      unfold atL
      rw [List.getElem?_map, List.getElem?_range hi]
      rfl
    by_cases e : j = i
    · subst e
      rw [List.getElem?_set_self (by rw [atL_length]; exact h), g, if_pos (by omega)]
    · rw [List.getElem?_set_ne e, g, g]
      by_cases q : i < j
      · rw [if_pos q, if_pos (by omega)]
      · rw [if_neg q, if_neg (by omega)]
  · rw [List.getElem?_eq_none (by rw [List.length_set, atL_length]; omega), List.getElem?_eq_none (by rw [atL_length]; omega)]
theorem atL_full (n a b : Int) (l : List UInt8) (k : Nat) : atL n a b l k (2 * n).toNat = atL n a b l (k + 1) 0 := by
  unfold atL
  refine List.map_congr_left ?_
  intro t ht
  rw [if_pos (List.mem_range.1 ht), if_neg (by omega)]
theorem rep_succ (n a b : Int) (l : List UInt8) (k : Nat) (t : Int) : walkI n a b (Lib.repeatL l (k + 1)) t = walkI n a b l (walkI n a b (Lib.repeatL l k) t) := by
  rw [Lib.repeatL_add l k 1, Lib.repeatL_one, walk_append]
/-- Whether the first triads are at home. -/
def homeB (n a b : Int) (l : List UInt8) (k j : Nat) : Bool := (List.range j).all fun (t : Nat) => walkI n a b (Lib.repeatL l k) (t : Int) == (t : Int)
theorem homeB_succ (n a b : Int) (l : List UInt8) (k j : Nat) : homeB n a b l k (j + 1) = (homeB n a b l k j && (walkI n a b (Lib.repeatL l k) (j : Int) == (j : Int))) := by
  unfold homeB
  rw [List.range_succ, List.all_append]
  simp
theorem homeB_same {n a b : Int} (hn : 0 < n) (l : List UInt8) (k : Nat) : homeB n a b l k (2 * n).toNat = same n a b (Lib.repeatL l k) [] := by
  rw [Bool.eq_iff_iff]
  unfold homeB
  rw [List.all_eq_true]
  constructor
  · intro h
    have h0 := h 0 (List.mem_range.2 (by omega))
    rw [same_iff hn _ _ ((0 : Nat) : Int) (by omega) (by omega)]
    exact decide_eq_true (eq_of_beq h0)
  · intro h t ht
    have := List.mem_range.1 ht
    rw [same_iff hn _ _ ((t : Nat) : Int) (by omega) (by omega)] at h
    exact beq_iff_eq.2 (of_decide_eq_true h)
theorem rOrder_l1 {n a b : Int} (hk : isKind n a b = true) (s : ByteArray) (hs : s.size ≤ 60) (m : Nat) (hm : IsOrd n a b s.data.toList m) : ∀ d i : Nat, i + 1 + d = m → Ev (fun k => sackbutref04_Order.l1 k s (atL n a b s.data.toList i 0) ((i + 1 : Nat) : Int) n a b) (m : Int) := by
  have hn := kind_pos' hk
  have h16 := (of_decide_eq_true hk).2.1
  have h32 := hm.small
  -- one pass
  have pass : ∀ (i : Nat) (hi : i < m), (homeB n a b s.data.toList (i + 1) (2 * n).toNat = true → Ev (fun _ => some ((i + 1 : Nat) : Int)) (m : Int)) → (homeB n a b s.data.toList (i + 1) (2 * n).toNat = false → Ev (fun k => sackbutref04_Order.l1 k s (atL n a b s.data.toList (i + 1) 0) ((i + 2 : Nat) : Int) n a b) (m : Int)) →
      ∀ e j : Nat, j + e = (2 * n).toNat → Ev (fun k => sackbutref04_Order.l2 k s (atL n a b s.data.toList i j) ((i + 1 : Nat) : Int) (homeB n a b s.data.toList (i + 1) j) (2 * n) (j : Int) n a b) (m : Int) := by
    intro i hi ht hf e
    induction e with
    | zero =>
      intro j hj
      obtain rfl : j = (2 * n).toNat := by omega
      cases hh : homeB n a b s.data.toList (i + 1) (2 * n).toNat with
      | true =>
        refine Ev.step (fun k => ?_) (ht hh)
        simp only [sackbutref04_Order.l2]
        rw [if_neg (by omega), if_pos trivial]
      | false =>
        refine Ev.step (fun k => ?_) (hf hh)
        simp only [sackbutref04_Order.l2]
        rw [if_neg (by omega), if_neg (by decide), atL_full, w64 (x := ((i + 1 : Nat) : Int) + 1) (by omega) (by omega)]
        rfl
    | succ e ih =>
      intro j hj
      have hj1 : j < (2 * n).toNat := by omega
      have hl := atL_length n a b s.data.toList i j
      have hr := walk_range hn a b (Lib.repeatL s.data.toList i) (j : Int) (by omega) (by omega)
      have hw := rWalk_f hk s (by omega) _ hr.1 hr.2
      rw [← rep_succ] at hw
      refine Ev.step (f := fun k => (sackbutref04_Walk.f k n a b (walkI n a b (Lib.repeatL s.data.toList i) (j : Int)) s).bind fun t451 => ((some ((atL n a b s.data.toList i j).set j t451 : List Int)).bind fun y452 => (if homeB n a b s.data.toList (i + 1) j = true then (sackbutref04_Order.l2 k s y452 ((i + 1 : Nat) : Int) (t451 == (j : Int)) (2 * n) (wrap64 ((j : Int) + 1)) n a b) else (sackbutref04_Order.l2 k s y452 ((i + 1 : Nat) : Int) false (2 * n) (wrap64 ((j : Int) + 1)) n a b)))) (fun k => ?_) (Ev.bind hw ?_)
      · simp only [sackbutref04_Order.l2]
        rw [if_pos (by omega), if_pos (by omega), if_pos (by omega), atL_rd n a b _ i j hj1, Int.toNat_natCast]
      · have ih2 := ih (j + 1) (by omega)
        rw [homeB_succ] at ih2
        simp only [Option.bind_some]
        rw [atL_set n a b _ i j hj1, w64 (x := (j : Int) + 1) (by omega) (by omega)]
        cases hh : homeB n a b s.data.toList (i + 1) j with
        | true =>
          rw [hh, Bool.true_and] at ih2
          simp only [if_true]
          exact ih2
        | false =>
          rw [hh, Bool.false_and] at ih2
          simp only [Bool.false_eq_true, if_false]
          exact ih2
  intro d
  induction d with
  | zero =>
    intro i hi
    refine Ev.step (fun k => ?_) (pass i (by omega) (fun _ => by rw [show i + 1 = m by omega]; exact Ev.now _) (fun h => by
      rw [homeB_same hn, show i + 1 = m by omega, hm.id] at h
      cases h) (2 * n).toNat 0 (by omega))
    simp only [sackbutref04_Order.l1]
    rw [atL_length, show (((2 * n).toNat : Nat) : Int) = 2 * n by omega]
    rfl
  | succ d ih =>
    intro i hi
    refine Ev.step (fun k => ?_) (pass i (by omega) (fun h => by
      rw [homeB_same hn, hm.least (i + 1) (by omega) (by omega)] at h
      cases h) (fun _ => ih (i + 1) (by omega)) (2 * n).toNat 0 (by omega))
    simp only [sackbutref04_Order.l1]
    rw [atL_length, show (((2 * n).toNat : Nat) : Int) = 2 * n by omega]
    rfl
theorem rOrder_l0 {n a b : Int} (hk : isKind n a b = true) (s : ByteArray) (hs : s.size ≤ 60) (m : Nat) (hm : IsOrd n a b s.data.toList m) : ∀ (d i : Nat) (A : List Int), i + d = (2 * n).toNat → A.length = (2 * n).toNat → (∀ (j : Nat) (h : j < A.length), j < i → A[j] = (j : Int)) → Ev (fun k => sackbutref04_Order.l0 k s A (2 * n) (i : Int) n a b) (m : Int)
  | 0, i, A, h, hl, hA => by
    have hn := kind_pos' hk
    have e : A = atL n a b s.data.toList 0 0 := by
      refine List.ext_getElem (by rw [hl, atL_length]) ?_
      intro j h1 h2
      rw [hA j h1 (by omega), atL_start n a b _ 0 j h2]
      rfl
    have hp := hm.pos
    refine Ev.step (fun k => ?_) (rOrder_l1 hk s hs m hm (m - 1) 0 (by omega))
    simp only [sackbutref04_Order.l0]
    rw [if_neg (by omega), e]
    rfl
  | d + 1, i, A, h, hl, hA => by
    have hn := kind_pos' hk
    have h16 := (of_decide_eq_true hk).2.1
    refine Ev.step (fun k => ?_) (rOrder_l0 hk s hs m hm d (i + 1) (A.set i (i : Int)) (by omega) (by rw [List.length_set]; exact hl) ?_)
    · simp only [sackbutref04_Order.l0]
      rw [if_pos (by omega), if_pos (by omega), if_pos (by omega), Int.toNat_natCast, w64 (x := (i : Int) + 1) (by omega) (by omega)]
      rfl
    · intro j hj hji
      rw [List.getElem_set]
      by_cases e : i = j
      · rw [if_pos e, e]
      · rw [if_neg e]
        exact hA j (by rw [List.length_set] at hj; exact hj) (by omega)
theorem rOrder_f {n a b : Int} (hk : isKind n a b = true) (s : ByteArray) (hs : s.size ≤ 60) (m : Nat) (hm : IsOrd n a b s.data.toList m) : Ev (fun k => sackbutref04_Order.f k n a b s) (m : Int) := by
  have hn := kind_pos' hk
  have h16 := (of_decide_eq_true hk).2.1
  unfold sackbutref04_Order.f
  rw [w64 (x := 2 * n) (by omega) (by omega)]
  have g1 : 0 ≤ 2 * n := by omega
  have g2 : (2 * n).toNat ≤ 35184372088832 := by omega
  simp only [g1, g2, if_true, Option.bind_some, List.length_replicate]
  rw [show (((2 * n).toNat : Nat) : Int) = 2 * n by omega]
  exact rOrder_l0 hk s hs m hm (2 * n).toNat 0 _ (by omega) (by rw [List.length_replicate]) (fun j h hj => by omega)
end Go.Proofs.YtpaeobpmkdekfaaDoor.Base
end
