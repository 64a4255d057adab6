/- Texts that the proof of TriadsVisits needs, put together in build order by this session's program (wip/tools/claimtrim.py). -/
import Derived.Test.YtpaeobpmkdekfaaDoorTriadsVisitsM16
import Derived.Test.YtpaeobpmkdekfaaDoorTriadsVisitsM14
import Derived.Test.YtpaeobpmkdekfaaDoorTriadsVisitsM18
section
namespace Go.Proofs.YtpaeobpmkdekfaaDoor.Base
open Go.RowKit Go.Proofs.YtpaeobpmkdekfaaDoor.P Go.Proofs.YtpaeobpmkdekfaaDoor.Kit Go.Proofs.YtpaeobpmkdekfaaDoorW.PrintWords Go.Proofs.YtpaeobpmkdekfaaDoorW.PrintLast Go.Proofs.YtpaeobpmkdekfaaDoor.Tri
theorem letter_mem {l : List UInt8} (h : l ≠ []) (i : Nat) : letter l i ∈ l := by
  have hl := List.length_pos_iff.2 h
  have := Nat.mod_lt i hl
  unfold letter
  rw [List.getD_eq_getElem?_getD, List.getElem?_eq_getElem this]
  exact List.getElem_mem this
theorem letter_add (l : List UInt8) (i : Nat) : letter l (l.length + i) = letter l i := by
  unfold letter
  rw [Nat.add_mod_left]
theorem word_len (l : List UInt8) : word l l.length = l := by
  unfold word
  refine List.ext_getElem (by simp) ?_
  intro i h1 h2
  rw [List.getElem_map, List.getElem_range]
  unfold letter
  rw [Nat.mod_eq_of_lt h2, List.getD_eq_getElem?_getD, List.getElem?_eq_getElem h2]
  rfl
theorem word_add (l : List UInt8) (j : Nat) : word l (l.length + j) = l ++ word l j := by
  have e : word l (l.length + j) = word l l.length ++ ((List.range j).map fun i => letter l (l.length + i)) := by
    unfold word
    rw [List.range_add, List.map_append, List.map_map]
    rfl
  rw [e, word_len]
  congr 1
  unfold word
  refine List.map_congr_left ?_
  intro i _
  exact letter_add l i
theorem letter_twice (l : List UInt8) (i : Nat) : letter (l ++ l) i = letter l i := by
  by_cases hl : l.length = 0
  · obtain rfl : l = [] := List.eq_nil_of_length_eq_zero hl
    rfl
  · unfold letter
    have hpos : 0 < l.length := by omega
    have hlt := Nat.mod_lt i (show 0 < l.length + l.length by omega)
    have hm : i % (l.length + l.length) % l.length = i % l.length := Nat.mod_mod_of_dvd i ⟨2, by omega⟩
    rw [List.length_append, List.getD_eq_getElem?_getD, List.getD_eq_getElem?_getD]
    generalize i % (l.length + l.length) = x at hlt hm
    by_cases hx : x < l.length
    · rw [List.getElem?_append_left hx, ← hm, Nat.mod_eq_of_lt hx]
    · rw [List.getElem?_append_right (by omega), ← hm]
      congr 2
      have : x = (x - l.length) + l.length := by omega
      rw [this, Nat.add_mod_right, Nat.mod_eq_of_lt (by omega)]
      omega
theorem tourV_twice (n a b : Int) (l : List UInt8) : tourV n a b (l ++ l) = tourV n a b l := by
  have hq : q n a b (l ++ l) = q n a b l := by
    funext i
    unfold q word
    congr 1
    exact List.map_congr_left fun j _ => letter_twice l j
  unfold tourV
  rw [hq]
  cases l <;> rfl
theorem visits_size {n a b : Int} (hk : isKind n a b = true) (l : List UInt8) (hall : l.all stepByte = true) (h : tourV n a b l = true) : ((searchL n a b [76, 80, 82] 0).length : Int) = 2 * n := by
  have hn := kind_pos hk
  obtain ⟨hne, hv⟩ := (tourV_iff n a b l).1 h
  have good := searchL_good hk [76, 80, 82] 0 (by omega) (by omega)
  have hnd : ((List.range (2 * n).toNat).map (q n a b l)).Nodup := by
    unfold tourV at h
    rw [Bool.and_eq_true, Bool.and_eq_true, decide_eq_true_eq] at h
    exact h.2.1
  have hle := Bfs.nodup_length _ ((searchL n a b [76, 80, 82] 0).map (·.1)) hnd (fun x hx => by
    obtain ⟨i, _, rfl⟩ := List.mem_map.1 hx
    have hkn := (known_walk hk [76, 80, 82] 0 (by omega) (by omega) (q n a b l i)).2 ⟨word l i, fun c hc => by
      obtain ⟨j, _, rfl⟩ := List.mem_map.1 hc
      exact step_mem (List.all_eq_true.1 hall _ (letter_mem hne j)), rfl⟩
    obtain ⟨w, hw⟩ := Bfs.known_iff.1 hkn
    exact List.mem_map.2 ⟨_, hw, rfl⟩)
  rw [List.length_map, List.length_map, List.length_range] at hle
  rcases good.length with g | g <;> omega
theorem visits_odd {n a b : Int} (hk : isKind n a b = true) (l : List UInt8) (h : tourV n a b l = true) (ho : l.length % 2 = 1) : n ≤ (l.length : Int) := by
  have hn := kind_pos hk
  obtain ⟨_, hv, _⟩ := (tourV_iff n a b l).1 h
  apply Classical.byContradiction
  intro hlt
  have e : word l (l.length + l.length) = Lib.repeatL l 2 := by
    rw [word_add, word_len]
    show l ++ l = l ++ (l ++ [])
    rw [List.append_nil]
  refine hv 0 (l.length + l.length) (by omega) (by omega) ?_
  have hodd : odd l = true := by rw [odd_length]; exact decide_eq_true ho
  obtain ⟨h1, h2⟩ := rep_odd a b l hodd
  have := (walk_eq_iff hn a b (Lib.repeatL l 2) [] 0 (by omega) (by omega)).2 ⟨h1, by rw [h2]; rfl⟩
  unfold q
  rw [e, this]
  rfl
end Go.Proofs.YtpaeobpmkdekfaaDoor.Base
namespace Go.Proofs.YtpaeobpmkdekfaaDoor.Pure
open Go.RowKit Go.Proofs.YtpaeobpmkdekfaaDoor.P Go.Proofs.YtpaeobpmkdekfaaDoor.Kit Go.Proofs.YtpaeobpmkdekfaaDoor.Base Go.Proofs.YtpaeobpmkdekfaaDoorW.PrintWords Go.Proofs.YtpaeobpmkdekfaaDoorW.PrintLast
theorem visits_j1 {n a b : Int} (hk : isKind n a b = true) (s : ByteArray) (hw : isWalkB s = true) (hn : Int64 n) (ha : Int64 a) (hb : Int64 b) : Ev (fun k => P.sackbutlaw04_TriadsVisits.j1 k s (tourV n a b s.data.toList) false n a b) true := by
  have hl := data_length s
  by_cases h30 : (s.size : Int) > 30
  · refine Ev.done fun k => ?_
    simp only [P.sackbutlaw04_TriadsVisits.j1]
    rw [if_neg (by decide), if_pos h30, awake_f]
    rfl
  · have e2 : Lib.repeatL s.data.toList 2 = s.data.toList ++ s.data.toList := by
      show s.data.toList ++ (s.data.toList ++ []) = _
      rw [List.append_nil]
    have hrep := repeat_f s (isWalk_size hw) 2 (by omega)
    rw [e2] at hrep
    have hw2 : isWalkB ⟨(s.data.toList ++ s.data.toList).toArray⟩ = true := by
      unfold isWalkB at hw ⊢
      rw [Bool.and_eq_true] at hw
      rw [Bool.and_eq_true]
      refine ⟨decide_eq_true ?_, ?_⟩
      · show (s.data.toList ++ s.data.toList).toArray.size ≤ 60
        rw [List.size_toArray, List.length_append]
        omega
      · rw [List.all_append, hw.2]
        rfl
    have hT := Tour_f n a b ⟨(s.data.toList ++ s.data.toList).toArray⟩ hn ha hb
    simp only [hk, hw2, if_true] at hT
    refine Ev.step (f := fun k => (triads_Tour.f k n a b ⟨(s.data.toList ++ s.data.toList).toArray⟩).bind fun bt417 => (if bt417.2 = 0 then (if (bt417.1 == tourV n a b s.data.toList) = true then some true else (some false)) else (some false))) (fun k => ?_) (Ev.bind hT ?_)
    · simp only [P.sackbutlaw04_TriadsVisits.j1]
      rw [if_neg (by decide), if_neg h30]
      simp only [sackbutlaw04_Of.f, Option.bind_some, awake_f]
      rw [show ((2 : Nat) : Int) = 2 from rfl] at hrep
      rw [hrep]
      rfl
    · simp only [tourV_twice]
      simp only [if_true, beq_self_eq_true]
      exact Ev.now _
theorem TriadsVisits (a0 a1 a2 : Int) (b1 : ByteArray) (w0 : (Lit.int .i64 a0).wf = true) (w1 : (Lit.int .i64 a1).wf = true) (w2 : (Lit.int .i64 a2).wf = true) (wb1 : b1.size ≤ maxLen) : ∃ k, P.sackbutlaw04_TriadsVisits.f k a0 a1 a2 b1 = some true := by
  have hn := int64_of w0
  have ha := int64_of w1
  have hb := int64_of w2
  have hs : b1.size < 9223372036854775808 := by unfold maxLen at wb1; omega
  obtain ⟨tx, htx, hsame, hsw⟩ := text_f b1
  have hT := Tour_f a0 a1 a2 tx hn ha hb
  rw [hsw] at hT
  refine Ev.rounds ?_
  unfold P.sackbutlaw04_TriadsVisits.f
  simp only [sackbutlaw04_Of.f, Option.bind_some, htx]
  refine Ev.bind hT ?_
  cases hk : isKind a0 a1 a2 with
  | false =>
    simp only [Bool.false_eq_true, if_false]
    refine Ev.done fun k => ?_
    rw [if_neg (by decide)]
    simp [P.sackbutlaw04_TriadsVisits.j0, awake_f]
  | true =>
    cases hw : isWalkB b1 with
    | false =>
      simp only [Bool.false_eq_true, if_false, if_true]
      refine Ev.done fun k => ?_
      rw [if_neg (by decide)]
      simp [P.sackbutlaw04_TriadsVisits.j0, awake_f]
    | true =>
      obtain rfl := hsame hw
      simp only [if_true, rValid_f a0 a1 a2 hn ha hb, hk, Option.bind_some]
      refine Ev.bind (rIsWalk_f tx hs) ?_
      rw [hw]
      have h16 := (of_decide_eq_true hk).2.1
      have hn0 := kind_pos hk
      have hl := data_length tx
      have hall : tx.data.toList.all stepByte = true := by
        unfold isWalkB at hw
        rw [Bool.and_eq_true] at hw
        exact hw.2
      refine Ev.step (f := fun k => P.sackbutlaw04_TriadsVisits.j1 k tx (tourV a0 a1 a2 tx.data.toList) false a0 a1 a2) (fun k => ?_) (visits_j1 hk tx hw hn ha hb)
      simp only [P.sackbutlaw04_TriadsVisits.j0]
      rw [if_neg (by decide)]
      simp only [sackbutlaw04_Of.f, Option.bind_some, size_f a0 a1 a2 hn ha hb, hk, if_true]
      cases ht : tourV a0 a1 a2 tx.data.toList with
      | false => simp
      | true =>
        have h1 := visits_size hk _ hall ht
        rw [w64 (x := 2 * a0) (by omega) (by omega)]
        simp only [h1, if_true]
        by_cases ho : (tx.size : Int) % 2 = 1
        · have h2 := visits_odd hk _ ht (by omega)
          rw [if_pos ho, decide_eq_false (by omega)]
        · rw [if_neg ho]
end Go.Proofs.YtpaeobpmkdekfaaDoor.Pure
end
