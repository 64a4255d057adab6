/- TriadsFar: for every input, the numbers of triads that are so far begin with one, end with some, sum to all that can be reached, and are the same for every triad. Conditions: none. -/
import Derived.Test.YtpaeobpmkdekfaaDoorP21
import Derived.Test.YtpaeobpmkdekfaaDoorPureTriadsWays
import Derived.Test.YtpaeobpmkdekfaaDoorSearchLaws
namespace Go.Proofs.YtpaeobpmkdekfaaDoor.Pure
open Go.RowKit Go.Proofs.YtpaeobpmkdekfaaDoor.P Go.Proofs.YtpaeobpmkdekfaaDoor.Kit Go.Proofs.YtpaeobpmkdekfaaDoor.Base Go.Proofs.YtpaeobpmkdekfaaDoorW.PrintWords Go.Proofs.YtpaeobpmkdekfaaDoorW.PrintLast
theorem sum_take (l : List Int) (i : Nat) (h : i < l.length) : (l.take (i + 1)).sum = (l.take i).sum + l[i] := by
  rw [List.take_succ_eq_append_getElem h, List.sum_append, List.sum_cons, List.sum_nil, Int.add_zero]
theorem far_l0 (n m g : Int) (l : List Int) (hl : l.length ≤ 32) (h1 : ∀ (i : Nat) (h : i < l.length), 1 ≤ l[i] ∧ l[i] ≤ 32) (hs : l.sum = n) (hz : 1 < l.length) (e0 : rd l 0 = 1) (e1 : rd l 1 ≤ 3) (hm : m = 0) (hg : g = 0) : ∀ d i : Nat, i + d = l.length → 0 ≤ (l.take i).sum → (l.take i).sum ≤ 32 * (i : Int) → Ev (fun k => P.sackbutlaw04_TriadsFar.l0 k l l m n g (l.take i).sum l (l.length : Int) (i : Int)) true
  | 0, i, h, _, _ => by
    subst hm hg
    refine Ev.step (f := fun k => (slices_Equal_int_int.f k l l).bind fun t301 => (if t301 = true then some true else some false)) (fun k => ?_) (Ev.bind (equal_self l (by omega)) (Ev.now _))
    have hi : ¬ ((i : Int) < (l.length : Int)) := by omega
    have hz' : (l.length : Int) > 1 := by omega
    have hz2 : 0 < (l.length : Int) := by omega
    simp only [P.sackbutlaw04_TriadsFar.l0]
    rw [if_neg hi, if_pos trivial, if_pos trivial, List.take_of_length_le (by omega), hs]
    simp only [if_true, hz', hz2, e0, e1, awake_f, Option.bind_some]
  | d + 1, i, h, hlo, hhi => by
    have hi : i < l.length := by omega
    have h1i := h1 i hi
    have hi' : (i : Int) < (l.length : Int) := by omega
    have e := sum_take l i hi
    refine Ev.step (fun k => ?_) (far_l0 n m g l hl h1 hs hz e0 e1 hm hg d (i + 1) (by omega) (by omega) (by omega))
    simp only [P.sackbutlaw04_TriadsFar.l0]
    rw [if_pos hi', if_pos (by omega), if_pos hi', rd_nat l i hi, if_neg (by omega), w64 (x := (l.take i).sum + l[i]) (by omega) (by omega), w64 (x := (i : Int) + 1) (by omega) (by omega), e]
    rfl
theorem TriadsFar (a0 a1 a2 b1 b2 : Int) (w0 : (Lit.int .i64 a0).wf = true) (w1 : (Lit.int .i64 a1).wf = true) (w2 : (Lit.int .i64 a2).wf = true) (_wb1 : (Lit.int .i64 b1).wf = true) (_wb2 : (Lit.int .i64 b2).wf = true) : ∃ k, P.sackbutlaw04_TriadsFar.f k a0 a1 a2 b1 b2 = some true := by
  have hn := int64_of w0
  have ha := int64_of w1
  have hb := int64_of w2
  refine Ev.rounds ?_
  unfold P.sackbutlaw04_TriadsFar.f
  simp only [sackbutlaw04_Of.f, Option.bind_some, far_f _ _ _ _ hn ha hb]
  cases hk : (isKind a0 a1 a2 && isTri a0 b1) with
  | false =>
    simp only [Bool.false_eq_true, if_false]
    refine Ev.done fun k => ?_
    rw [if_neg (by decide)]
    simp [P.sackbutlaw04_TriadsFar.j0, awake_f]
  | true =>
    obtain ⟨hk1, hk2⟩ := Bool.and_eq_true_iff.1 hk
    have h2 := of_decide_eq_true hk2
    have h16 := (of_decide_eq_true hk1).2.1
    have hn0 := kind_pos hk1
    simp only [if_true]
    refine Ev.bind (fine_two a0 a1 a2 b1 b2 hn ha hb) ?_
    rw [hk, Bool.true_and]
    cases ht : isTri a0 b2 with
    | false =>
      refine Ev.done fun k => ?_
      simp [P.sackbutlaw04_TriadsFar.j0, awake_f]
    | true =>
      have h3 := of_decide_eq_true ht
      obtain ⟨ec, _⟩ := searchL_counts hk1 [76, 80, 82] b1 b2 h2 h3
      obtain ⟨_, el⟩ := searchL_counts hk1 [76, 80, 82] 0 b1 (by omega) h2
      have c0 := counts_zero hk1 [76, 80, 82] b1 h2.1 h2.2
      have c1 := counts_one hk1 [76, 80, 82] b1 h2.1 h2.2
      have c2 := counts_two hk1 76 [80, 82] b1 h2.1 h2.2
      have cs := counts_short hk1 hk2
      have cp := fun i => Bfs.counts_pos (searchL_par a0 a1 a2 [76, 80, 82] b1) (i := i)
      have cm := fun i => (Bfs.counts_nonneg (searchL a0 a1 a2 [76, 80, 82] b1) i).2
      have csum := Bfs.counts_sum (searchL a0 a1 a2 [76, 80, 82] b1)
      have hlen : (searchL a0 a1 a2 [76, 80, 82] b1).length ≤ 32 := by
        rcases (searchL_good hk1 [76, 80, 82] b1 h2.1 h2.2).length with h | h <;> omega
      rw [el] at csum
      generalize hC : Bfs.counts (searchL a0 a1 a2 [76, 80, 82] b1) = l at *
      refine Ev.step (f := fun k => P.sackbutlaw04_TriadsFar.l0 k l l 0 ((searchL a0 a1 a2 [76, 80, 82] 0).length : Int) 0 0 l (l.length : Int) 0) (fun k => ?_) ?_
      · simp only [P.sackbutlaw04_TriadsFar.j0]
        rw [if_neg (by decide)]
        simp only [sackbutlaw04_Of.f, Option.bind_some, far_f _ _ _ _ hn ha hb, size_f _ _ _ hn ha hb, hk1, ht, Bool.and_self, if_true, ec]
      · refine far_l0 _ 0 0 l cs (fun i h => ?_) csum c2 c0 c1 rfl rfl l.length 0 (by omega) (by simp) (by simp)
        have g1 := cp i h
        have g2 := cm i
        rw [List.getD_eq_getElem?_getD, List.getElem?_eq_getElem h] at g1 g2
        simp only [Option.getD_some] at g1 g2
        omega
end Go.Proofs.YtpaeobpmkdekfaaDoor.Pure
