/- TriadsTones: for every input, Tones of the program returns the set of a triad's tones, and Find the triad with some, as the reference does, or the documented error. Conditions: none. -/
import Derived.Test.YtpaeobpmkdekfaaDoorP2
import Derived.Test.YtpaeobpmkdekfaaDoorP5
import Derived.Test.YtpaeobpmkdekfaaDoorP6
import Derived.Test.YtpaeobpmkdekfaaDoorTones
namespace Go.Proofs.YtpaeobpmkdekfaaDoor.Pure
open Go.RowKit Go.Proofs.YtpaeobpmkdekfaaDoor.P Go.Proofs.YtpaeobpmkdekfaaDoor.Kit Go.Proofs.YtpaeobpmkdekfaaDoor.Base Go.Proofs.YtpaeobpmkdekfaaDoorW.PrintWords Go.Proofs.YtpaeobpmkdekfaaDoorW.PrintLast
/-- What stands behind the first test. -/
theorem tones_rest (n a b x : Int) (hn : Int64 n) (ha : Int64 a) (hb : Int64 b) : Ev (fun k => P.sackbutlaw04_TriadsTones.j0 k x (findV n a b x).1 (findV n a b x).2 false n a b) true := by
  unfold findV
  cases hk : isKind n a b with
  | false =>
    refine Ev.step (f := fun k => P.sackbutlaw04_TriadsTones.j1 k x 0 2 true n a b) (fun k => ?_) (Ev.done fun k => ?_)
    · simp [P.sackbutlaw04_TriadsTones.j0, rValid_f n a b hn ha hb, hk]
    · simp [P.sackbutlaw04_TriadsTones.j1, awake_f]
  | true =>
    obtain ⟨h1, h2, h3, h4, h5, _⟩ := of_decide_eq_true hk
    by_cases hx : 0 ≤ x ∧ x < ((2 ^ n.toNat : Nat) : Int)
    · rw [if_pos ⟨rfl, hx.1, hx.2⟩]
      refine Ev.step (f := fun k => P.sackbutlaw04_TriadsTones.j1 k x (findT n a b x (2 * n).toNat 0).1 (findT n a b x (2 * n).toNat 0).2 false n a b) (fun k => ?_) ?_
      · simp only [P.sackbutlaw04_TriadsTones.j0, rValid_f n a b hn ha hb, hk, Option.bind_some]
        rw [if_neg (by decide), if_pos trivial, if_neg (by omega), if_pos (by omega), shl_n (by omega) h2, decide_eq_false (by omega)]
      · refine Ev.step (f := fun k => (P.sackbutref04_Find.f k n a b x).bind fun v => if (findT n a b x (2 * n).toNat 0).1 = v.1 then (if (findT n a b x (2 * n).toNat 0).2 = v.2 then some true else some false) else some false) (fun k => ?_) ?_
        · simp only [P.sackbutlaw04_TriadsTones.j1, awake_f, Option.bind_some]
          rw [if_neg (by decide)]
        · refine Ev.bind (f := fun k v => _) (rFind_f hk x) ?_
          simp only [if_true]
          exact Ev.now _
    · rw [if_neg (fun h => hx h.2)]
      refine Ev.step (f := fun k => P.sackbutlaw04_TriadsTones.j1 k x 0 2 true n a b) (fun k => ?_) (Ev.done fun k => ?_)
      · simp only [P.sackbutlaw04_TriadsTones.j0, rValid_f n a b hn ha hb, hk, Option.bind_some]
        rw [if_neg (by decide), if_pos trivial]
        by_cases hx0 : x < 0
        · rw [if_pos hx0]
        · rw [if_neg hx0, if_pos (by omega), shl_n (by omega) h2, decide_eq_true (by omega)]
      · simp [P.sackbutlaw04_TriadsTones.j1, awake_f]
theorem TriadsTones (a0 a1 a2 b1 b2 : Int) (w0 : (Lit.int .i64 a0).wf = true) (w1 : (Lit.int .i64 a1).wf = true) (w2 : (Lit.int .i64 a2).wf = true) (_wb1 : (Lit.int .i64 b1).wf = true) (_wb2 : (Lit.int .i64 b2).wf = true) : ∃ k, P.sackbutlaw04_TriadsTones.f k a0 a1 a2 b1 b2 = some true := by
  have hn := int64_of w0
  have ha := int64_of w1
  have hb := int64_of w2
  refine Ev.rounds ?_
  unfold P.sackbutlaw04_TriadsTones.f
  simp only [sackbutlaw04_Of.f, Option.bind_some]
  refine Ev.bind (Tones_f b1 hn ha hb) ?_
  refine Ev.bind (find_f b2 hn ha hb) ?_
  refine Ev.bind (fine_f a0 a1 a2 b1 hn ha hb) ?_
  have rest := tones_rest a0 a1 a2 b2 hn ha hb
  cases hk : (isKind a0 a1 a2 && isTri a0 b1) with
  | false =>
    simp only [Bool.false_eq_true, if_false, if_true]
    refine Ev.bind (fine_f a0 a1 a2 b1 hn ha hb) ?_
    rw [hk]
    simp only [Bool.false_eq_true, if_false]
    exact rest
  | true =>
    obtain ⟨hk1, hk2⟩ := Bool.and_eq_true_iff.1 hk
    simp only [if_true, rTones_f hk1 hk2, Option.bind_some]
    refine Ev.bind (fine_f a0 a1 a2 b1 hn ha hb) ?_
    rw [hk]
    simp only [if_true]
    exact rest
end Go.Proofs.YtpaeobpmkdekfaaDoor.Pure
