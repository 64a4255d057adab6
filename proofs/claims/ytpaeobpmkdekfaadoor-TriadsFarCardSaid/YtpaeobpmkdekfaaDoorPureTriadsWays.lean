/- TriadsWays: for every input, Way of the program returns the walk that the reference names, and Far the numbers of triads, or the documented error. Conditions: none. -/
import Derived.Test.YtpaeobpmkdekfaaDoorP23
import Derived.Test.YtpaeobpmkdekfaaDoorFew
namespace Go.Proofs.YtpaeobpmkdekfaaDoor.Base
open Go.RowKit Go.Proofs.YtpaeobpmkdekfaaDoor.P Go.Proofs.YtpaeobpmkdekfaaDoor.Kit Go.Proofs.YtpaeobpmkdekfaaDoorW.PrintWords Go.Proofs.YtpaeobpmkdekfaaDoorW.PrintLast
/-- What Way returns where both triads are. -/
def wayV (n a b s t : Int) : ByteArray × Int := match wordOf (searchL n a b [76, 80, 82] s) t with | some u => (⟨u.toArray⟩, 0) | none => (⟨#[]⟩, 4)
theorem way_f (n a b s t : Int) (hn : Int64 n) (ha : Int64 a) (hb : Int64 b) : triads_Way.f n a b s t = some (if (isKind n a b && isTri n s && isTri n t) = true then wayV n a b s t else (⟨#[]⟩, 2)) := by
  unfold triads_Way.f
  rw [isTriad_two n a b s t hn ha hb]
  simp only [Option.bind_some]
  cases hk : (isKind n a b && isTri n s && isTri n t) with
  | false => rfl
  | true =>
    rw [Bool.and_eq_true, Bool.and_eq_true] at hk
    obtain ⟨⟨hk1, hk2⟩, hk3⟩ := hk
    have h2 := of_decide_eq_true hk2
    have h3 := of_decide_eq_true hk3
    simp only [if_true]
    rw [if_pos ⟨hk1, h2.1, h2.2, h3.1, h3.2⟩]
    rfl
theorem far_f (n a b s : Int) (hn : Int64 n) (ha : Int64 a) (hb : Int64 b) : triads_Far.f n a b s = some (if (isKind n a b && isTri n s) = true then (Bfs.counts (searchL n a b [76, 80, 82] s), 0) else ([], 2)) := by
  unfold triads_Far.f
  rw [isTriad_f n a b s hn ha hb]
  simp only [Option.bind_some]
  cases hk : (isKind n a b && isTri n s) with
  | false => rfl
  | true =>
    rw [Bool.and_eq_true] at hk
    have h2 := of_decide_eq_true hk.2
    simp only [if_true]
    rw [if_pos ⟨hk.1, h2.1, h2.2⟩]
theorem rFar_f {n a b s : Int} (hk : isKind n a b = true) (ht : isTri n s = true) : sackbutref04_Far.f n a b s = some (Bfs.counts (searchL n a b [76, 80, 82] s)) := by
  have h2 := of_decide_eq_true ht
  unfold sackbutref04_Far.f
  rw [if_pos ⟨hk, h2.1, h2.2⟩]
theorem rWay_f {n a b s t : Int} (hk : isKind n a b = true) (hs : isTri n s = true) (ht : isTri n t = true) : sackbutref04_Way.f n a b s t = some (wayV n a b s t) := by
  have h2 := of_decide_eq_true hs
  have h3 := of_decide_eq_true ht
  unfold sackbutref04_Way.f sackbutref04_ways.f
  rw [if_pos ⟨hk, h2.1, h2.2⟩]
  simp only [Option.bind_some]
  have hm : (metL (2 * n).toNat (searchL n a b [76, 80, 82] s)).length = (2 * n).toNat := by simp [metL]
  have hw : (wayL (2 * n).toNat (searchL n a b [76, 80, 82] s)).length = (2 * n).toNat := by simp [wayL]
  have h4 : t < (((2 * n).toNat : Nat) : Int) := by omega
  simp only [hm, hw, rd_met _ _ t h3.1 h4, rd_way _ _ t h3.1 h4, h3.1, h4, if_true]
  unfold wayV
  cases hu : wordOf (searchL n a b [76, 80, 82] s) t with
  | none =>
    simp only [wordOf_none hu, Bool.false_eq_true, if_false]
  | some u =>
    simp only [Bfs.known_iff.2 ⟨u, wordOf_some hu⟩, if_true]
    rfl
theorem counts_short {n a b s : Int} (hk : isKind n a b = true) (ht : isTri n s = true) : (Bfs.counts (searchL n a b [76, 80, 82] s)).length ≤ 32 := by
  have h2 := of_decide_eq_true ht
  obtain ⟨_, h16, _⟩ := of_decide_eq_true hk
  have g := searchL_good hk [76, 80, 82] s h2.1 h2.2
  have := Bfs.counts_top _ _ g.short
  rcases g.length with h | h <;> omega
theorem rTriad_some {n a b t : Int} (hn : Int64 n) (hk : isKind n a b = true) : sackbutref04_Triad.f n a b t = some (isTri n t) := by
  obtain ⟨v, h1, h2⟩ := rTriad_f n a b t hn
  rw [h1, h2 hk]
end Go.Proofs.YtpaeobpmkdekfaaDoor.Base
namespace Go.Proofs.YtpaeobpmkdekfaaDoor.Pure
open Go.RowKit Go.Proofs.YtpaeobpmkdekfaaDoor.P Go.Proofs.YtpaeobpmkdekfaaDoor.Kit Go.Proofs.YtpaeobpmkdekfaaDoor.Base Go.Proofs.YtpaeobpmkdekfaaDoorW.PrintWords Go.Proofs.YtpaeobpmkdekfaaDoorW.PrintLast
theorem TriadsWays (a0 a1 a2 b1 b2 : Int) (w0 : (Lit.int .i64 a0).wf = true) (w1 : (Lit.int .i64 a1).wf = true) (w2 : (Lit.int .i64 a2).wf = true) (_wb1 : (Lit.int .i64 b1).wf = true) (_wb2 : (Lit.int .i64 b2).wf = true) : ∃ k, P.sackbutlaw04_TriadsWays.f k a0 a1 a2 b1 b2 = some true := by
  have hn := int64_of w0
  have ha := int64_of w1
  have hb := int64_of w2
  refine Ev.rounds ?_
  unfold P.sackbutlaw04_TriadsWays.f
  simp only [sackbutlaw04_Of.f, Option.bind_some, way_f _ _ _ _ _ hn ha hb, far_f _ _ _ _ hn ha hb]
  refine Ev.bind (fine_f a0 a1 a2 b1 hn ha hb) ?_
  cases hk : (isKind a0 a1 a2 && isTri a0 b1) with
  | false =>
    simp only [Bool.false_and, Bool.false_eq_true, if_false, if_true, awake_f, Option.bind_some, ByteArray.toList_eq]
    exact Ev.now _
  | true =>
    obtain ⟨hk1, hk2⟩ := Bool.and_eq_true_iff.1 hk
    simp only [if_true, rFar_f hk1 hk2, Option.bind_some]
    refine Ev.bind (equal_self _ (Nat.lt_of_le_of_lt (counts_short hk1 hk2) (by omega))) ?_
    simp only [if_true, awake_f, Option.bind_some]
    refine Ev.done fun k => ?_
    simp only [P.sackbutlaw04_TriadsWays.j0]
    rw [if_neg (by decide), rTriad_some hn hk1]
    simp only [Option.bind_some, Bool.true_and]
    cases ht : isTri a0 b2 with
    | false =>
      simp
    | true =>
      simp only [if_true, rWay_f hk1 hk2 ht, Option.bind_some]
      simp
end Go.Proofs.YtpaeobpmkdekfaaDoor.Pure
