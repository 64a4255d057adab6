/- What the tests of a walk, and the beginning of a string, compute; small facts for all laws of this seat. -/
import Derived.Test.YtpaeobpmkdekfaaDoorP2
import Derived.Test.YtpaeobpmkdekfaaDoorP4
import Derived.Test.YtpaeobpmkdekfaaDoorP5
import Derived.Test.YtpaeobpmkdekfaaDoorP6
import Derived.Test.YtpaeobpmkdekfaaDoorP7
import Derived.Test.YtpaeobpmkdekfaaDoorWalk
namespace Go.Proofs.YtpaeobpmkdekfaaDoor.Base
open Go.RowKit Go.Proofs.YtpaeobpmkdekfaaDoor.P Go.Proofs.YtpaeobpmkdekfaaDoor.Kit Go.Proofs.YtpaeobpmkdekfaaDoorW.PrintWords Go.Proofs.YtpaeobpmkdekfaaDoorW.PrintLast
theorem wsucc3 (i : Nat) (h : i + 1 < 9223372036854775808) : wrap64 ((i : Int) + 1) = ((i + 1 : Nat) : Int) := by
  rw [w64 (by omega) (by omega)]
  rfl
theorem awake_f : sackbutlaw04_awake.f = some true := by decide +kernel
theorem bt_nat (s : ByteArray) (i : Nat) (h : i < s.data.toList.length) : bt s (i : Int) = ((s.data.toList.getD i 0).toNat : Int) := by
  rw [← rd_bytesOf]
  unfold rd bytesOf
  rw [Int.toNat_natCast, List.getD_eq_getElem?_getD, List.getD_eq_getElem?_getD, List.getElem?_map, List.getElem?_eq_getElem h]
  rfl
theorem drop_at (l : List UInt8) (i : Nat) (h : i < l.length) : l.drop i = l.getD i 0 :: l.drop (i + 1) := by
  rw [List.drop_eq_getElem_cons h, List.getD_eq_getElem?_getD, List.getElem?_eq_getElem h]
  rfl
theorem byte_eq (b : UInt8) (m : Nat) (hm : m < 256) : ((b.toNat : Int) = (m : Int)) ↔ (b == UInt8.ofNat m) = true := by
  rw [beq_iff_eq]
  constructor
  · intro h
    apply UInt8.toNat_inj.1
    rw [UInt8.toNat_ofNat']
    omega
  · intro h
    rw [h, UInt8.toNat_ofNat']
    omega
def isWalkB (s : ByteArray) : Bool := decide (s.size ≤ 60) && s.data.toList.all stepByte
theorem rIsWalk_l0 (s : ByteArray) (hs : s.size < 9223372036854775808) : ∀ (d i : Nat), i + d = s.size → Ev (fun k => sackbutref04_IsWalk.l0 k s s.size i) (if (s.data.toList.drop i).all stepByte = true then decide (s.size ≤ 60) else false)
  | 0, i, h => by
    have hl := data_length s
    refine Ev.done fun k => ?_
    simp only [sackbutref04_IsWalk.l0]
    rw [if_neg (by omega), List.drop_eq_nil_of_le (by omega), List.all_nil, if_pos rfl]
    congr 1
    rw [Bool.eq_iff_iff]
    simp
    omega
  | d + 1, i, h => by
    have hl := data_length s
    have hb := bt_nat s i (by omega)
    have ih := rIsWalk_l0 s hs d (i + 1) (by omega)
    rw [drop_at _ i (by omega), List.all_cons]
    generalize s.data.toList.getD i 0 = b at *
    have e1 := byte_eq b 80 (by decide)
    have e2 := byte_eq b 76 (by decide)
    have e3 := byte_eq b 82 (by decide)
    by_cases hst : stepByte b = true
    · rw [hst, Bool.true_and]
      refine Ev.step (fun k => ?_) ih
      simp only [sackbutref04_IsWalk.l0]
      rw [if_pos (by omega), if_pos (by omega), if_pos (by omega), hb, wsucc3 i (by omega)]
      unfold stepByte at hst
      by_cases c1 : (b.toNat : Int) = 80
      · rw [if_pos c1]
      · rw [if_neg c1]
        by_cases c2 : (b.toNat : Int) = 76
        · rw [if_pos c2]
        · rw [if_neg c2, if_pos]
          refine e3.2 ?_
          have n1 : (b == 80) = false := Bool.eq_false_iff.2 (fun h => c1 (e1.2 h))
          have n2 : (b == 76) = false := Bool.eq_false_iff.2 (fun h => c2 (e2.2 h))
          rw [n1, n2, Bool.false_or, Bool.false_or] at hst
          exact hst
    · have hst' : stepByte b = false := by simpa using hst
      rw [hst', Bool.false_and, if_neg (by decide)]
      refine Ev.done fun k => ?_
      simp only [sackbutref04_IsWalk.l0]
      unfold stepByte at hst
      rw [if_pos (by omega), if_pos (by omega), if_pos (by omega), hb, if_neg (fun h => hst (by rw [show (b == 80) = true from e1.1 h]; rfl)), if_neg (fun h => hst (by rw [show (b == 76) = true from e2.1 h]; simp)), if_neg (fun h => hst (by rw [show (b == 82) = true from e3.1 h]; simp))]
theorem rIsWalk_f (s : ByteArray) (hs : s.size < 9223372036854775808) : Ev (fun k => sackbutref04_IsWalk.f k s) (isWalkB s) := by
  have := rIsWalk_l0 s hs s.size 0 (by omega)
  rw [List.drop_zero] at this
  have e : isWalkB s = (if s.data.toList.all stepByte = true then decide (s.size ≤ 60) else false) := by
    unfold isWalkB
    cases s.data.toList.all stepByte <;> simp
  rw [e]
  exact this
theorem rWalk_l0 {n a b : Int} (h : isKind n a b = true) (s : ByteArray) (hs : s.size < 9223372036854775808) : ∀ (d i : Nat) (t : Int), i + d = s.size → 0 ≤ t → t < 2 * n → Ev (fun k => sackbutref04_Walk.l0 k t s s.size i n a b) (walkI n a b (s.data.toList.drop i) t)
  | 0, i, t, hi, _, _ => by
    have hl := data_length s
    refine Ev.done fun k => ?_
    simp only [sackbutref04_Walk.l0]
    rw [if_neg (by omega), List.drop_eq_nil_of_le (by omega)]
    rfl
  | d + 1, i, t, hi, h0, h1 => by
    have hl := data_length s
    have hb := bt_nat s i (by omega)
    have hr := step_range h t ((s.data.toList.getD i 0).toNat : Int)
    refine Ev.step (fun k => ?_) (rWalk_l0 h s hs d (i + 1) (stepI n a b t ((s.data.toList.getD i 0).toNat : Int)) (by omega) hr.1 hr.2 |> fun g => by rw [drop_at _ i (by omega)]; exact g)
    simp only [sackbutref04_Walk.l0]
    rw [if_pos (by omega), if_pos (by omega), if_pos (by omega), hb, rStep_f h t _ h0 h1, wsucc3 i (by omega)]
    rfl
theorem text_short (s : ByteArray) (h : s.size ≤ 70) : sackbutlaw04_text.f s = some s := by
  unfold sackbutlaw04_text.f
  have e : mn (s.size : Int) 70 = (s.size : Int) := by unfold mn; split <;> omega
  rw [e, if_pos (by omega), if_pos (by omega), Int.toNat_natCast]
  congr 1
  apply ByteArray.ext
  rw [ByteArray.data_extract]
  exact Array.extract_size
theorem text_long (s : ByteArray) (h : 70 < s.size) : ∃ x, sackbutlaw04_text.f s = some x ∧ x.size = 70 := by
  unfold sackbutlaw04_text.f
  have e : mn (s.size : Int) 70 = 70 := by unfold mn; split <;> omega
  rw [e, if_pos (by omega), if_pos (by omega)]
  refine ⟨_, rfl, ?_⟩
  rw [ByteArray.size_extract]
  have : (70 : Int).toNat = 70 := rfl
  rw [this]
  omega
theorem fine_f (n a b t : Int) (hn : Int64 n) (ha : Int64 a) (hb : Int64 b) : Ev (fun k => sackbutlaw04_fine.f k n a b [t]) (isKind n a b && isTri n t) := by
  have hv := rValid_f n a b hn ha hb
  have e0 : rd ([t] : List Int) 0 = t := rfl
  have e1 : wrap64 ((0 : Int) + 1) = 1 := by rw [w64 (by omega) (by omega)]; rfl
  by_cases htri : sackbutref04_Triad.f n a b t = some true
  · refine Ev.step (f := fun k => sackbutlaw04_fine.l0 k [t] 1 1 n a b) (g := fun k => sackbutlaw04_fine.f k n a b [t]) (fun k => ?_) (Ev.done fun k => ?_)
    · show sackbutlaw04_fine.l0 (k + 1) [t] 1 0 n a b = _
      simp only [sackbutlaw04_fine.l0]
      rw [if_pos (by decide), if_pos (by decide), if_pos (by simp), e0, htri, e1]
      rfl
    · simp only [sackbutlaw04_fine.l0]
      rw [if_neg (by decide), hv]
      show some (isKind n a b) = _
      congr 1
      cases hk : isKind n a b with
      | false => rfl
      | true =>
        obtain ⟨h1, h2, _⟩ := of_decide_eq_true hk
        unfold sackbutref04_Triad.f at htri
        rw [w64 (x := 2 * n) (by omega) (by omega)] at htri
        symm
        rw [Bool.true_and]
        unfold isTri
        split at htri
        · rename_i h0
          have := of_decide_eq_true (Option.some.inj htri)
          exact decide_eq_true (by omega)
        · cases Option.some.inj htri
  · refine Ev.done fun k => ?_
    show sackbutlaw04_fine.l0 (k + 1) [t] 1 0 n a b = _
    simp only [sackbutlaw04_fine.l0]
    rw [if_pos (by decide), if_pos (by decide), if_pos (by simp), e0]
    unfold sackbutref04_Triad.f at htri ⊢
    by_cases h0 : t ≥ 0
    · rw [if_pos h0] at htri ⊢
      have hlt : decide (t < wrap64 (2 * n)) = false := by
        cases hd : decide (t < wrap64 (2 * n)) with
        | false => rfl
        | true => rw [hd] at htri; exact absurd rfl htri
      rw [hlt]
      show some false = _
      congr 1
      cases hk : isKind n a b with
      | false => rfl
      | true =>
        obtain ⟨h1, h2, _⟩ := of_decide_eq_true hk
        rw [w64 (x := 2 * n) (by omega) (by omega)] at hlt
        have := of_decide_eq_false hlt
        symm
        rw [Bool.true_and]
        exact decide_eq_false (by omega)
    · rw [if_neg h0]
      show some false = _
      congr 1
      symm
      have : isTri n t = false := decide_eq_false (by omega)
      rw [this, Bool.and_false]
theorem int64_of {x : Int} (h : (Lit.int .i64 x).wf = true) : Int64 x := by
  have h2 : (decide (IntKind.i64.min ≤ x) && decide (x ≤ IntKind.i64.max)) = true := h
  rw [Bool.and_eq_true, decide_eq_true_eq, decide_eq_true_eq] at h2
  have m1 : IntKind.i64.min = -9223372036854775808 := by decide
  have m2 : IntKind.i64.max = 9223372036854775807 := by decide
  rw [m1, m2] at h2
  unfold Int64
  omega
end Go.Proofs.YtpaeobpmkdekfaaDoor.Base
