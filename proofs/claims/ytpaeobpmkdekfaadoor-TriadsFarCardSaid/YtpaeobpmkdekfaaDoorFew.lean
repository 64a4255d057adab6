/- Small laws over the printed functions: fine of several triads, isTriad of several, Equal of a list with itself. -/
import Derived.Test.YtpaeobpmkdekfaaDoorP5
import Derived.Test.YtpaeobpmkdekfaaDoorP20
import Derived.Test.YtpaeobpmkdekfaaDoorWalk2
namespace Go.Proofs.YtpaeobpmkdekfaaDoor.Base
open Go.RowKit Go.Proofs.YtpaeobpmkdekfaaDoor.P Go.Proofs.YtpaeobpmkdekfaaDoor.Kit Go.Proofs.YtpaeobpmkdekfaaDoorW.PrintWords Go.Proofs.YtpaeobpmkdekfaaDoorW.PrintLast
theorem rd_nat (l : List Int) (i : Nat) (h : i < l.length) : rd l (i : Int) = l[i] := by
  unfold rd
  rw [List.getD_eq_getElem?_getD, show ((i : Int)).toNat = i from Int.toNat_natCast i, List.getElem?_eq_getElem h]
  rfl
theorem rTriad_f (n a b t : Int) (hn : Int64 n) : ∃ v, sackbutref04_Triad.f n a b t = some v ∧ (isKind n a b = true → v = isTri n t) := by
  have _ := hn
  unfold sackbutref04_Triad.f
  by_cases h0 : t ≥ 0
  · rw [if_pos h0]
    refine ⟨_, rfl, fun hk => ?_⟩
    obtain ⟨h1, h2, _⟩ := of_decide_eq_true hk
    rw [w64 (x := 2 * n) (by omega) (by omega)]
    unfold isTri
    by_cases h : t < 2 * n
    · rw [decide_eq_true h, decide_eq_true ⟨h0, h⟩]
    · rw [decide_eq_false h, decide_eq_false (fun x => h x.2)]
  · rw [if_neg h0]
    refine ⟨_, rfl, fun _ => ?_⟩
    exact (decide_eq_false (fun x => h0 x.1)).symm
theorem fine_l0 (n a b : Int) (hn : Int64 n) (ha : Int64 a) (hb : Int64 b) (l : List Int) (hl : l.length < 1000) : ∀ m i : Nat, i + m = l.length → Ev (fun k => sackbutlaw04_fine.l0 k l (l.length : Int) (i : Int) n a b) (isKind n a b && (l.drop i).all (isTri n))
  | 0, i, h => by
    refine Ev.done fun k => ?_
    simp only [sackbutlaw04_fine.l0]
    rw [if_neg (by omega), rValid_f n a b hn ha hb, List.drop_eq_nil_of_le (by omega)]
    simp
  | m + 1, i, h => by
    have hi : i < l.length := by omega
    obtain ⟨v, hv, hvk⟩ := rTriad_f n a b l[i] hn
    rw [List.drop_eq_getElem_cons hi, List.all_cons]
    cases v with
    | false =>
      refine Ev.done fun k => ?_
      simp only [sackbutlaw04_fine.l0]
      rw [if_pos (by omega), if_pos (by omega), if_pos (by omega), rd_nat l i hi, hv]
      simp only [Option.bind_some, Bool.false_eq_true, if_false]
      congr 1
      cases hk : isKind n a b with
      | false => rfl
      | true => rw [← hvk hk]; rfl
    | true =>
      have ih := fine_l0 n a b hn ha hb l hl m (i + 1) (by omega)
      have e : (isKind n a b && (isTri n l[i] && (l.drop (i + 1)).all (isTri n))) = (isKind n a b && (l.drop (i + 1)).all (isTri n)) := by
        cases hk : isKind n a b with
        | false => rfl
        | true => rw [← hvk hk]; rfl
      rw [e]
      refine Ev.step (fun k => ?_) ih
      simp only [sackbutlaw04_fine.l0]
      rw [if_pos (by omega), if_pos (by omega), if_pos (by omega), rd_nat l i hi, hv]
      simp only [Option.bind_some, if_true]
      rw [w64 (by omega) (by omega)]
      rfl
theorem fine_l (n a b : Int) (hn : Int64 n) (ha : Int64 a) (hb : Int64 b) (l : List Int) (hl : l.length < 1000) : Ev (fun k => sackbutlaw04_fine.f k n a b l) (isKind n a b && l.all (isTri n)) := fine_l0 n a b hn ha hb l hl l.length 0 (by omega)
theorem fine_two (n a b s t : Int) (hn : Int64 n) (ha : Int64 a) (hb : Int64 b) : Ev (fun k => sackbutlaw04_fine.f k n a b [s, t]) (isKind n a b && isTri n s && isTri n t) := by
  have := fine_l n a b hn ha hb [s, t] (by simp)
  simp only [List.all_cons, List.all_nil, Bool.and_true] at this
  rw [Bool.and_assoc]
  exact this
theorem isTriad_two (n a b s t : Int) (hn : Int64 n) (ha : Int64 a) (hb : Int64 b) : triads_Kind_isTriad.f n a b [s, t] = some (isKind n a b && isTri n s && isTri n t) := by
  unfold triads_Kind_isTriad.f
  rw [valid_f n a b hn ha hb]
  simp only [Option.bind_some, List.any_cons, List.any_nil, Bool.or_false]
  cases h : isKind n a b with
  | false => simp
  | true =>
    obtain ⟨h1, h2, _⟩ := of_decide_eq_true h
    rw [notTriad_f n s h1 h2, notTriad_f n t h1 h2]
    simp
theorem equal_l0 (l : List Int) (hl : l.length < 1000) : ∀ m i : Nat, i + m = l.length → Ev (fun k => slices_Equal_int_int.l0 k l l (l.length : Int) (i : Int)) true
  | 0, i, h => by
    refine Ev.done fun k => ?_
    simp only [slices_Equal_int_int.l0]
    rw [if_neg (by omega)]
  | m + 1, i, h => by
    refine Ev.step (fun k => ?_) (equal_l0 l hl m (i + 1) (by omega))
    simp only [slices_Equal_int_int.l0]
    have h0 : (0 : Int) ≤ (i : Int) := by omega
    have h1 : (i : Int) < (l.length : Int) := by omega
    simp only [h0, h1, if_true]
    rw [w64 (by omega) (by omega)]
    rfl
theorem equal_self (l : List Int) (hl : l.length < 1000) : Ev (fun k => slices_Equal_int_int.f k l l) true := by
  unfold slices_Equal_int_int.f
  simp only [if_true]
  exact equal_l0 l hl l.length 0 (by omega)
end Go.Proofs.YtpaeobpmkdekfaaDoor.Base
