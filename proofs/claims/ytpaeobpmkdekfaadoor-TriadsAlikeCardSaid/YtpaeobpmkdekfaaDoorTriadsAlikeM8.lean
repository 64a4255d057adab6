/- Texts that the proof of TriadsAlike needs, put together in build order by this session's program (wip/tools/claimtrim.py). -/
import Derived.Test.YtpaeobpmkdekfaaDoorTriadsAlikeM7
section
namespace Go.Proofs.YtpaeobpmkdekfaaDoor.Base
open Go.RowKit Go.Proofs.YtpaeobpmkdekfaaDoor.P Go.Proofs.YtpaeobpmkdekfaaDoor.Kit Go.Proofs.YtpaeobpmkdekfaaDoorW.PrintWords Go.Proofs.YtpaeobpmkdekfaaDoorW.PrintLast
theorem Ev.done {α : Type} {g : Nat → Option α} {r : α} (h : ∀ k, g (k + 1) = some r) : Ev g r := Ev.step (f := fun _ => some r) h (Ev.now r)
/-- Go's ints. -/
def Int64 (x : Int) : Prop := -9223372036854775808 ≤ x ∧ x < 9223372036854775808
theorem valid_f (n a b : Int) (hn : Int64 n) (ha : Int64 a) (hb : Int64 b) : triads_Kind_valid.f n a b = some (isKind n a b) := by
  unfold triads_Kind_valid.f isKind
  unfold Int64 at *
  by_cases c1 : n < 5
  · rw [if_pos c1]; congr 1; symm; exact decide_eq_false (by omega)
  · rw [if_neg c1]
    by_cases c2 : n > 16
    · rw [if_pos c2]; congr 1; symm; exact decide_eq_false (by omega)
    · rw [if_neg c2]
      by_cases c3 : a ≤ 0
      · rw [if_pos c3]; congr 1; symm; exact decide_eq_false (by omega)
      · rw [if_neg c3]
        by_cases c4 : b ≤ a
        · rw [if_pos c4]; congr 1; symm; exact decide_eq_false (by omega)
        · rw [if_neg c4]
          by_cases c5 : n ≤ b
          · rw [if_pos c5]; congr 1; symm; exact decide_eq_false (by omega)
          · rw [if_neg c5, w64 (x := b - a) (by omega) (by omega), w64 (x := n - b) (by omega) (by omega)]
            by_cases c6 : a = b - a
            · rw [if_pos c6]; congr 1; symm; exact decide_eq_false (by omega)
            · rw [if_neg c6]
              by_cases c7 : b - a = n - b
              · rw [if_pos c7]; congr 1; symm; exact decide_eq_false (by omega)
              · rw [if_neg c7]
                congr 1
                rw [Bool.eq_iff_iff, bne_iff_ne, decide_eq_true_eq]
                omega
theorem rValid_f (n a b : Int) (hn : Int64 n) (ha : Int64 a) (hb : Int64 b) : sackbutref04_Valid.f n a b = some (isKind n a b) := by
  unfold sackbutref04_Valid.f isKind
  unfold Int64 at *
  by_cases c1 : n ≥ 5
  · rw [if_pos c1]
    by_cases c2 : n ≤ 16
    · rw [if_pos c2]
      by_cases c3 : a > 0
      · rw [if_pos c3]
        by_cases c4 : a < b
        · rw [if_pos c4]
          by_cases c5 : b < n
          · rw [if_pos c5, w64 (x := b - a) (by omega) (by omega), w64 (x := n - b) (by omega) (by omega)]
            by_cases c6 : a = b - a
            · rw [if_pos c6]; congr 1; symm; exact decide_eq_false (by omega)
            · rw [if_neg c6]
              by_cases c7 : a = n - b
              · rw [if_pos c7]; congr 1; symm; exact decide_eq_false (by omega)
              · rw [if_neg c7]
                congr 1
                rw [Bool.eq_iff_iff, bne_iff_ne, decide_eq_true_eq]
                omega
          · rw [if_neg c5]; congr 1; symm; exact decide_eq_false (by omega)
        · rw [if_neg c4]; congr 1; symm; exact decide_eq_false (by omega)
      · rw [if_neg c3]; congr 1; symm; exact decide_eq_false (by omega)
    · rw [if_neg c2]; congr 1; symm; exact decide_eq_false (by omega)
  · rw [if_neg c1]; congr 1; symm; exact decide_eq_false (by omega)

/-- A walk. -/
def walkI (n a b : Int) : List UInt8 → Int → Int
  | [], t => t
  | c :: l, t => walkI n a b l (stepI n a b t (c.toNat : Int))
theorem walk_go {n a b : Int} (h : isKind n a b = true) : ∀ (l : List UInt8) (t : Int), 0 ≤ t → t < 2 * n → triads_Kind_walk.go n a b l t = some (walkI n a b l t)
  | [], t, _, _ => rfl
  | c :: l, t, h0, h1 => by
    have hr := step_range h t (c.toNat : Int)
    rw [triads_Kind_walk.go, step_f h t _ h0 h1]
    exact walk_go h l _ hr.1 hr.2

end Go.Proofs.YtpaeobpmkdekfaaDoor.Base
end

section
namespace Go.Proofs.YtpaeobpmkdekfaaDoor.Base
open Go.RowKit Go.Proofs.YtpaeobpmkdekfaaDoor.P Go.Proofs.YtpaeobpmkdekfaaDoor.Kit Go.Proofs.YtpaeobpmkdekfaaDoorW.PrintWords Go.Proofs.YtpaeobpmkdekfaaDoorW.PrintLast
theorem wsucc3 (i : Nat) (h : i + 1 < 9223372036854775808) : wrap64 ((i : Int) + 1) = ((i + 1 : Nat) : Int) := by
  rw [w64 (by omega) (by omega)]
  rfl
theorem awake_f : sackbutlaw04_awake.f = some true := by decide +kernel
theorem bt_nat (s : ByteArray) (i : Nat) (h : i < s.data.toList.length) : bt s (i : Int) = ((s.data.toList.getD i 0).toNat : Int) := by
  rw [← rd_bytesOf]
  unfold rd bytesOf
  rw [Int.toNat_natCast, List.getD_eq_getElem?_getD, List.getD_eq_getElem?_getD, List.getElem?_map, List.getElem?_eq_getElem h]
  rfl
theorem drop_at (l : List UInt8) (i : Nat) (h : i < l.length) : l.drop i = l.getD i 0 :: l.drop (i + 1) := by
  rw [List.drop_eq_getElem_cons h, List.getD_eq_getElem?_getD, List.getElem?_eq_getElem h]
  rfl
theorem byte_eq (b : UInt8) (m : Nat) (hm : m < 256) : ((b.toNat : Int) = (m : Int)) ↔ (b == UInt8.ofNat m) = true := by
  rw [beq_iff_eq]
  constructor
  · intro h
    apply UInt8.toNat_inj.1
    rw [UInt8.toNat_ofNat']
    omega
  · intro h
    rw [h, UInt8.toNat_ofNat']
    omega
def isWalkB (s : ByteArray) : Bool := decide (s.size ≤ 60) && s.data.toList.all stepByte
theorem rIsWalk_l0 (s : ByteArray) (hs : s.size < 9223372036854775808) : ∀ (d i : Nat), i + d = s.size → Ev (fun k => sackbutref04_IsWalk.l0 k s s.size i) (if (s.data.toList.drop i).all stepByte = true then decide (s.size ≤ 60) else false)
  | 0, i, h => by
    have hl := data_length s
    refine Ev.done fun k => ?_
    simp only [sackbutref04_IsWalk.l0]
    rw [if_neg (by omega), List.drop_eq_nil_of_le (by omega), List.all_nil, if_pos rfl]
    congr 1
    rw [Bool.eq_iff_iff]
    simp
    omega
  | d + 1, i, h => by
    have hl := data_length s
    have hb := bt_nat s i (by omega)
    have ih := rIsWalk_l0 s hs d (i + 1) (by omega)
    rw [drop_at _ i (by omega), List.all_cons]
    generalize s.data.toList.getD i 0 = b at *
    have e1 := byte_eq b 80 (by decide)
    have e2 := byte_eq b 76 (by decide)
    have e3 := byte_eq b 82 (by decide)
    by_cases hst : stepByte b = true
    · rw [hst, Bool.true_and]
      refine Ev.step (fun k => ?_) ih
      simp only [sackbutref04_IsWalk.l0]
      rw [if_pos (by omega), if_pos (by omega), if_pos (by omega), hb, wsucc3 i (by omega)]
      unfold stepByte at hst
      by_cases c1 : (b.toNat : Int) = 80
      · rw [if_pos c1]
      · rw [if_neg c1]
        by_cases c2 : (b.toNat : Int) = 76
        · rw [if_pos c2]
        · rw [if_neg c2, if_pos]
          refine e3.2 ?_
          have n1 : (b == 80) = false := Bool.eq_false_iff.2 (fun h => c1 (e1.2 h))
          have n2 : (b == 76) = false := Bool.eq_false_iff.2 (fun h => c2 (e2.2 h))
          rw [n1, n2, Bool.false_or, Bool.false_or] at hst
          exact hst
    · have hst' : stepByte b = false := by simpa using hst
      rw [hst', Bool.false_and, if_neg (by decide)]
      refine Ev.done fun k => ?_
      simp only [sackbutref04_IsWalk.l0]
      unfold stepByte at hst
      rw [if_pos (by omega), if_pos (by omega), if_pos (by omega), hb, if_neg (fun h => hst (by rw [show (b == 80) = true from e1.1 h]; rfl)), if_neg (fun h => hst (by rw [show (b == 76) = true from e2.1 h]; simp)), if_neg (fun h => hst (by rw [show (b == 82) = true from e3.1 h]; simp))]
theorem rIsWalk_f (s : ByteArray) (hs : s.size < 9223372036854775808) : Ev (fun k => sackbutref04_IsWalk.f k s) (isWalkB s) := by
  have := rIsWalk_l0 s hs s.size 0 (by omega)
  rw [List.drop_zero] at this
  have e : isWalkB s = (if s.data.toList.all stepByte = true then decide (s.size ≤ 60) else false) := by
    unfold isWalkB
    cases s.data.toList.all stepByte <;> simp
  rw [e]
  exact this
theorem rWalk_l0 {n a b : Int} (h : isKind n a b = true) (s : ByteArray) (hs : s.size < 9223372036854775808) : ∀ (d i : Nat) (t : Int), i + d = s.size → 0 ≤ t → t < 2 * n → Ev (fun k => sackbutref04_Walk.l0 k t s s.size i n a b) (walkI n a b (s.data.toList.drop i) t)
  | 0, i, t, hi, _, _ => by
    have hl := data_length s
    refine Ev.done fun k => ?_
    simp only [sackbutref04_Walk.l0]
    rw [if_neg (by omega), List.drop_eq_nil_of_le (by omega)]
    rfl
  | d + 1, i, t, hi, h0, h1 => by
    have hl := data_length s
    have hb := bt_nat s i (by omega)
    have hr := step_range h t ((s.data.toList.getD i 0).toNat : Int)
    refine Ev.step (fun k => ?_) (rWalk_l0 h s hs d (i + 1) (stepI n a b t ((s.data.toList.getD i 0).toNat : Int)) (by omega) hr.1 hr.2 |> fun g => by rw [drop_at _ i (by omega)]; exact g)
    simp only [sackbutref04_Walk.l0]
    rw [if_pos (by omega), if_pos (by omega), if_pos (by omega), hb, rStep_f h t _ h0 h1, wsucc3 i (by omega)]
    rfl
theorem text_short (s : ByteArray) (h : s.size ≤ 70) : sackbutlaw04_text.f s = some s := by
  unfold sackbutlaw04_text.f
  have e : mn (s.size : Int) 70 = (s.size : Int) := by unfold mn; split <;> omega
  rw [e, if_pos (by omega), if_pos (by omega), Int.toNat_natCast]
  congr 1
  apply ByteArray.ext
  rw [ByteArray.data_extract]
  exact Array.extract_size
theorem text_long (s : ByteArray) (h : 70 < s.size) : ∃ x, sackbutlaw04_text.f s = some x ∧ x.size = 70 := by
  unfold sackbutlaw04_text.f
  have e : mn (s.size : Int) 70 = 70 := by unfold mn; split <;> omega
  rw [e, if_pos (by omega), if_pos (by omega)]
  refine ⟨_, rfl, ?_⟩
  rw [ByteArray.size_extract]
  have : (70 : Int).toNat = 70 := rfl
  rw [this]
  omega
theorem int64_of {x : Int} (h : (Lit.int .i64 x).wf = true) : Int64 x := by
  have h2 : (decide (IntKind.i64.min ≤ x) && decide (x ≤ IntKind.i64.max)) = true := h
  rw [Bool.and_eq_true, decide_eq_true_eq, decide_eq_true_eq] at h2
  have m1 : IntKind.i64.min = -9223372036854775808 := by decide
  have m2 : IntKind.i64.max = 9223372036854775807 := by decide
  rw [m1, m2] at h2
  unfold Int64
  omega
end Go.Proofs.YtpaeobpmkdekfaaDoor.Base
end

section
namespace Go.Proofs.YtpaeobpmkdekfaaDoor.Tri
open Go.Proofs.YtpaeobpmkdekfaaDoor.Base
/-- The triad of a sort, whose first tone is a number. -/
def pos (n : Int) (d : Bool) (r : Int) : Int := if d = true then n + r % n else r % n
theorem pos_range {n : Int} (hn : 0 < n) (d : Bool) (r : Int) : 0 ≤ pos n d r ∧ pos n d r < 2 * n := by
  have e := Int.emod_nonneg r (show n ≠ 0 by omega)
  have l := Int.emod_lt_of_pos r hn
  unfold pos
  split <;> omega
theorem pos_dark {n : Int} (hn : 0 < n) (d : Bool) (r : Int) : decide (n ≤ pos n d r) = d := by
  have e := Int.emod_nonneg r (show n ≠ 0 by omega)
  have l := Int.emod_lt_of_pos r hn
  unfold pos
  cases d <;> simp <;> omega
theorem pos_mod {n : Int} (d : Bool) (r : Int) : pos n d r % n = r % n := by
  unfold pos
  cases d
  · simp
  · simp
theorem pos_congr {n : Int} (d : Bool) {r s : Int} (h : r % n = s % n) : pos n d r = pos n d s := by
  unfold pos
  rw [h]
theorem pos_of {n t : Int} (h0 : 0 ≤ t) (h1 : t < 2 * n) : pos n (decide (n ≤ t)) t = t := by
  unfold pos
  by_cases h : n ≤ t
  · rw [decide_eq_true h, if_pos rfl]
    have : t % n = t - n := by rw [← Int.sub_emod_right, Int.emod_eq_of_lt (by omega) (by omega)]
    omega
  · rw [decide_eq_false h, if_neg (by decide)]
    exact Int.emod_eq_of_lt h0 (by omega)
theorem pos_inj {n : Int} (hn : 0 < n) {d e : Bool} {r s : Int} : pos n d r = pos n e s ↔ d = e ∧ r % n = s % n := by
  constructor
  · intro h
    refine ⟨?_, ?_⟩
    · rw [← pos_dark hn d r, ← pos_dark hn e s, h]
    · rw [← pos_mod d r, ← pos_mod e s, h]
  · rintro ⟨rfl, h⟩
    exact pos_congr d h
theorem emod_add_congr {n r s : Int} (h : r % n = s % n) (x : Int) : (r + x) % n = (s + x) % n := by
  rw [Int.add_emod, h, ← Int.add_emod]
theorem emod_sub_congr {n r s : Int} (h : r % n = s % n) (x : Int) : (r - x) % n = (s - x) % n := by
  rw [Int.sub_emod, h, ← Int.sub_emod]
theorem emod_rsub_congr {n r s : Int} (h : r % n = s % n) (x : Int) : (x - r) % n = (x - s) % n := by
  rw [Int.sub_emod, h, ← Int.sub_emod]
theorem step_pos {n : Int} (hn : 0 < n) (a b : Int) (d : Bool) (r c : Int) : stepI n a b (pos n d r) c = pos n (!d) (if d = true then r - up a b c else r + up a b c) := by
  have hd := pos_dark hn d r
  have hm := pos_mod (n := n) d r
  unfold stepI
  cases d with
  | true =>
    have := of_decide_eq_true hd
    rw [if_neg (by omega), if_pos rfl]
    unfold pos at hm ⊢
    simp only [if_true, Bool.not_true, Bool.false_eq_true, if_false]
    exact emod_sub_congr (by simp) _
  | false =>
    have := of_decide_eq_false hd
    rw [if_pos (by omega), if_neg (by decide)]
    unfold pos at hm ⊢
    simp only [Bool.false_eq_true, if_false, Bool.not_false, if_true]
    congr 1
    exact emod_add_congr (by simp) _

/-- By how much a walk goes up from a bright triad, and down from a dark one. -/
def alt (a b : Int) : List UInt8 → Int
  | [] => 0
  | c :: l => up a b (c.toNat : Int) - alt a b l
/-- Whether a walk has an odd number of steps. -/
def odd : List UInt8 → Bool
  | [] => false
  | _ :: l => !odd l
theorem walk_pos {n : Int} (hn : 0 < n) (a b : Int) : ∀ (l : List UInt8) (d : Bool) (r : Int), walkI n a b l (pos n d r) = pos n (d != odd l) (if d = true then r - alt a b l else r + alt a b l)
  | [], d, r => by
    unfold walkI odd alt
    cases d <;> simp
  | c :: l, d, r => by
    unfold walkI odd alt
    rw [step_pos hn, walk_pos hn a b l]
    cases d with
    | true =>
      simp only [Bool.not_true, Bool.false_eq_true, if_false, if_true]
      rw [show r - up a b (c.toNat : Int) + alt a b l = r - (up a b (c.toNat : Int) - alt a b l) by omega]
      cases odd l <;> rfl
    | false =>
      simp only [Bool.not_false, Bool.false_eq_true, if_false, if_true]
      rw [show r + up a b (c.toNat : Int) - alt a b l = r + (up a b (c.toNat : Int) - alt a b l) by omega]
      cases odd l <;> rfl
theorem walk_append (n a b : Int) : ∀ (l m : List UInt8) (t : Int), walkI n a b (l ++ m) t = walkI n a b m (walkI n a b l t)
  | [], _, _ => rfl
  | _ :: l, m, _ => walk_append n a b l m _
theorem alt_append (a b : Int) : ∀ l m : List UInt8, alt a b (l ++ m) = if odd l = true then alt a b l - alt a b m else alt a b l + alt a b m
  | [], m => by simp [alt, odd]
  | c :: l, m => by
    have e : odd (c :: l) = !odd l := rfl
    rw [e]
    simp only [List.cons_append, alt]
    rw [alt_append a b l m]
    by_cases h : odd l = true
    · rw [if_pos h, h, if_neg (by decide)]; omega
    · rw [if_neg h, (by simpa using h : odd l = false), if_pos (by decide)]; omega
theorem odd_append : ∀ l m : List UInt8, odd (l ++ m) = (odd l != odd m)
  | [], m => by simp [odd]
  | c :: l, m => by
    simp only [List.cons_append, odd]
    rw [odd_append l m]
    cases odd l <;> cases odd m <;> rfl

theorem walk_range {n : Int} (hn : 0 < n) (a b : Int) (l : List UInt8) (t : Int) (h0 : 0 ≤ t) (h1 : t < 2 * n) : 0 ≤ walkI n a b l t ∧ walkI n a b l t < 2 * n := by
  rw [← pos_of h0 h1, walk_pos hn]
  exact pos_range hn _ _
/-- Where two walks lead triad 0 to one triad they do the same everywhere. -/
theorem walk_eq_iff {n : Int} (hn : 0 < n) (a b : Int) (l m : List UInt8) (t : Int) (h0 : 0 ≤ t) (h1 : t < 2 * n) : walkI n a b l t = walkI n a b m t ↔ odd l = odd m ∧ alt a b l % n = alt a b m % n := by
  rw [← pos_of h0 h1]
  generalize decide (n ≤ t) = d
  rw [walk_pos hn, walk_pos hn, pos_inj hn]
  constructor
  · rintro ⟨g1, g2⟩
    refine ⟨?_, ?_⟩
    · clear g2
      revert g1
      cases d <;> cases odd l <;> cases odd m <;> simp
    · cases d with
      | true =>
        have := emod_rsub_congr g2 t
        simp only [if_true] at this
        rw [show t - (t - alt a b l) = alt a b l by omega, show t - (t - alt a b m) = alt a b m by omega] at this
        exact this
      | false =>
        have := emod_sub_congr g2 t
        simp only [Bool.false_eq_true, if_false] at this
        rw [show t + alt a b l - t = alt a b l by omega, show t + alt a b m - t = alt a b m by omega] at this
        exact this
  · rintro ⟨g1, g2⟩
    refine ⟨by rw [g1], ?_⟩
    cases d with
    | true => exact emod_rsub_congr g2 t
    | false =>
      simp only [Bool.false_eq_true, if_false]
      rw [Int.add_emod, g2, ← Int.add_emod]

end Go.Proofs.YtpaeobpmkdekfaaDoor.Tri
end
