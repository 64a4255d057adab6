/- Texts that the proof of TriadsSizes needs, put together in build order by this session's program (wip/tools/claimtrim.py). -/
import Derived.Test.YtpaeobpmkdekfaaDoorTriadsSizesM10
import Derived.Test.YtpaeobpmkdekfaaDoorTriadsSizesM12
import Derived.Test.YtpaeobpmkdekfaaDoorTriadsSizesM14
section
namespace Go.Proofs.YtpaeobpmkdekfaaDoor.Base
open Go.RowKit Go.Proofs.YtpaeobpmkdekfaaDoor.P Go.Proofs.YtpaeobpmkdekfaaDoor.Kit Go.Proofs.YtpaeobpmkdekfaaDoorW.PrintWords Go.Proofs.YtpaeobpmkdekfaaDoorW.PrintLast Go.Proofs.YtpaeobpmkdekfaaDoor.Tri
theorem kind_pos' {n a b : Int} (hk : isKind n a b = true) : 0 < n := by
  have := (of_decide_eq_true hk).1
  omega
/-- A walk's text, cut where it is long, is the walk itself or none. -/
theorem text_f (s : ByteArray) : ∃ tx, sackbutlaw04_text.f s = some tx ∧ (isWalkB s = true → tx = s) ∧ isWalkB tx = isWalkB s := by
  by_cases h70 : s.size ≤ 70
  · exact ⟨s, text_short s h70, fun _ => rfl, rfl⟩
  · obtain ⟨x, h1, h2⟩ := text_long s (by omega)
    have f1 : isWalkB s = false := by unfold isWalkB; rw [decide_eq_false (by omega), Bool.false_and]
    have f2 : isWalkB x = false := by unfold isWalkB; rw [decide_eq_false (by omega), Bool.false_and]
    exact ⟨x, h1, (fun h => by rw [f1] at h; cases h), by rw [f1, f2]⟩
theorem isWalk_f (s : ByteArray) : triads_isWalk.f s = some (isWalkB s) := rfl
theorem isWalk_size {s : ByteArray} (h : isWalkB s = true) : s.size ≤ 60 := by
  unfold isWalkB at h
  rw [Bool.and_eq_true] at h
  exact of_decide_eq_true h.1
theorem kwalk_f {n a b : Int} (hk : isKind n a b = true) (s : ByteArray) (hs : s.size ≤ 1000000) (t : Int) (h0 : 0 ≤ t) (h1 : t < 2 * n) : triads_Kind_walk.f n a b t s = some (walkI n a b s.data.toList t) := by
  unfold triads_Kind_walk.f
  rw [if_pos (by omega), walk_go hk _ t h0 h1]
theorem walk_f (n a b t : Int) (s : ByteArray) (hn : Int64 n) (ha : Int64 a) (hb : Int64 b) : triads_Walk.f n a b t s = some (if (isKind n a b && isTri n t) = true then (if isWalkB s = true then (walkI n a b s.data.toList t, 0) else (0, 3)) else (0, 2)) := by
  unfold triads_Walk.f
  rw [isTriad_f n a b t hn ha hb]
  simp only [Option.bind_some]
  cases hk : (isKind n a b && isTri n t) with
  | false => rfl
  | true =>
    obtain ⟨hk1, hk2⟩ := Bool.and_eq_true_iff.1 hk
    have ht := of_decide_eq_true hk2
    simp only [if_true, isWalk_f, Option.bind_some]
    cases hw : isWalkB s with
    | false => rfl
    | true =>
      simp only [if_true]
      rw [kwalk_f hk1 s (by have := isWalk_size hw; omega) t ht.1 ht.2]
      rfl
/-- Whether two walks do the same to every triad. -/
def same (n a b : Int) (l m : List UInt8) : Bool := decide (odd l = odd m ∧ alt a b l % n = alt a b m % n)
theorem same_iff {n a b : Int} (hn : 0 < n) (l m : List UInt8) (t : Int) (h0 : 0 ≤ t) (h1 : t < 2 * n) : same n a b l m = decide (walkI n a b l t = walkI n a b m t) := by
  unfold same
  by_cases h : walkI n a b l t = walkI n a b m t
  · rw [decide_eq_true h, decide_eq_true ((walk_eq_iff hn a b l m t h0 h1).1 h)]
  · rw [decide_eq_false h, decide_eq_false (fun g => h ((walk_eq_iff hn a b l m t h0 h1).2 g))]
theorem alike_f {n a b : Int} (hk : isKind n a b = true) (x y : ByteArray) (hx : x.size ≤ 1000000) (hy : y.size ≤ 1000000) : triads_Kind_alike.f n a b x y = some (same n a b x.data.toList y.data.toList) := by
  have hn := kind_pos' hk
  unfold triads_Kind_alike.f
  rw [kwalk_f hk x hx 0 (by omega) (by omega), kwalk_f hk y hy 0 (by omega) (by omega), kwalk_f hk x hx n (by omega) (by omega), kwalk_f hk y hy n (by omega) (by omega)]
  simp only [Option.bind_some]
  have e0 := same_iff (a := a) (b := b) hn x.data.toList y.data.toList 0 (by omega) (by omega)
  have e1 := same_iff (a := a) (b := b) hn x.data.toList y.data.toList n (by omega) (by omega)
  by_cases h : walkI n a b x.data.toList 0 = walkI n a b y.data.toList 0
  · rw [if_pos h, e1]
    congr 1
  · rw [if_neg h, e0, decide_eq_false h]
theorem Alike_f (n a b : Int) (x y : ByteArray) (hn : Int64 n) (ha : Int64 a) (hb : Int64 b) : triads_Alike.f n a b x y = some (if isKind n a b = true then (if isWalkB x = true ∧ isWalkB y = true then (same n a b x.data.toList y.data.toList, 0) else (false, 3)) else (false, 2)) := by
  unfold triads_Alike.f
  rw [valid_f n a b hn ha hb]
  simp only [Option.bind_some]
  cases hk : isKind n a b with
  | false => rfl
  | true =>
    simp only [if_true, isWalk_f, Option.bind_some]
    cases hx : isWalkB x with
    | false => simp
    | true =>
      cases hy : isWalkB y with
      | false => simp
      | true =>
        simp only [if_true, and_self]
        rw [alike_f hk x y (by have := isWalk_size hx; omega) (by have := isWalk_size hy; omega)]
        rfl
end Go.Proofs.YtpaeobpmkdekfaaDoor.Base
end
