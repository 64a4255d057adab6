/- What is met from one triad is met from every other one, shifted; the counts of both are one. No program in sight, but for the names of its search. -/
import Derived.Test.YtpaeobpmkdekfaaDoorSearch
import Derived.Test.YtpaeobpmkdekfaaDoorBfsLaws
import Derived.Test.YtpaeobpmkdekfaaDoorTri
import Derived.Test.YtpaeobpmkdekfaaDoorFew
import Derived.Test.YtpaeobpmkdekfaaDoorSize
namespace Go.Proofs.YtpaeobpmkdekfaaDoor.Base
open Go.Proofs.YtpaeobpmkdekfaaDoor.P Go.Proofs.YtpaeobpmkdekfaaDoor.Tri
theorem kind_pos {n a b : Int} (hk : isKind n a b = true) : 0 < n := by
  have := (of_decide_eq_true hk).1
  omega
theorem stepU_range {n a b : Int} (hk : isKind n a b = true) (t : Int) (c : UInt8) : 0 ≤ stepU n a b t c ∧ stepU n a b t c < 2 * n := step_range hk t _
theorem foldl_walk (n a b : Int) : ∀ (l : List UInt8) (t : Int), l.foldl (stepU n a b) t = walkI n a b l t
  | [], _ => rfl
  | _ :: l, _ => foldl_walk n a b l _
/-- The triads, in a list. -/
def all (n : Int) : List Int := (List.range (2 * n).toNat).map fun (x : Nat) => (x : Int)
theorem mem_all {n t : Int} : t ∈ all n ↔ 0 ≤ t ∧ t < 2 * n := by
  unfold all
  rw [List.mem_map]
  constructor
  · rintro ⟨x, hx, rfl⟩
    have := List.mem_range.1 hx
    omega
  · rintro ⟨h0, h1⟩
    exact ⟨t.toNat, List.mem_range.2 (by omega), by omega⟩
theorem all_length (n : Int) : (all n).length = (2 * n).toNat := by simp [all]
theorem all_nodup (n : Int) : (all n).Nodup := by
  unfold all
  refine List.Pairwise.map _ ?_ List.nodup_range
  intro x y h e
  exact h (by omega)
theorem searchL_inv {n a b : Int} (hk : isKind n a b = true) (s : List UInt8) (t : Int) (ht0 : 0 ≤ t) (ht1 : t < 2 * n) : Bfs.Inv (stepU n a b) s t (searchL n a b s t).length (searchL n a b s t) := by
  have h16 := (of_decide_eq_true hk).2.1
  obtain ⟨j, h, e⟩ := Bfs.go_inv (f := stepU n a b) (steps := s) (t0 := t) (all n) (fun v => by
    rw [foldl_walk]
    exact mem_all.2 (walk_range (kind_pos hk) a b v t ht0 ht1)) 65 0 _ (Bfs.Inv.start _ _ _) (by rw [all_length]; omega)
  rw [e] at h
  exact h
theorem searchL_par (n a b : Int) (s : List UInt8) (t : Int) : Bfs.Par (searchL n a b s t) := Bfs.Par.go 65 0 _ (Bfs.Par.start t)
/-- Where a walk leads is just what is met. -/
theorem known_walk {n a b : Int} (hk : isKind n a b = true) (s : List UInt8) (t : Int) (ht0 : 0 ≤ t) (ht1 : t < 2 * n) (u : Int) : Bfs.known (searchL n a b s t) u = true ↔ ∃ w : List UInt8, (∀ c, c ∈ w → c ∈ s) ∧ walkI n a b w t = u := by
  have h := searchL_inv hk s t ht0 ht1
  constructor
  · intro hu
    obtain ⟨w, hw⟩ := Bfs.known_iff.1 hu
    obtain ⟨h1, h2⟩ := h.leads _ hw
    exact ⟨w, h2, by rw [← foldl_walk]; exact h1.symm⟩
  · rintro ⟨w, hw, rfl⟩
    rw [← foldl_walk]
    exact h.reach w hw
/-- Some shift leads from one triad to another one. -/
theorem shift_to {n : Int} (s t : Int) (ht0 : 0 ≤ t) (ht1 : t < 2 * n) : ∃ k turned, shiftI n s k turned = t := by
  refine ⟨if (decide (n ≤ s) != decide (n ≤ t)) = true then t + s else t - s, decide (n ≤ s) != decide (n ≤ t), ?_⟩
  unfold shiftI
  have e : (decide (n ≤ s) != (decide (n ≤ s) != decide (n ≤ t))) = decide (n ≤ t) := by
    cases decide (n ≤ s) <;> cases decide (n ≤ t) <;> rfl
  rw [e]
  refine Eq.trans (pos_congr _ ?_) (pos_of ht0 ht1)
  cases decide (n ≤ s) <;> cases decide (n ≤ t) <;> simp <;> congr 1 <;> omega
theorem shift_inj {n : Int} (hn : 0 < n) (k : Int) (turned : Bool) (x y : Int) (hx : 0 ≤ x ∧ x < 2 * n) (hy : 0 ≤ y ∧ y < 2 * n) (h : shiftI n x k turned = shiftI n y k turned) : x = y := by
  unfold shiftI at h
  rw [pos_inj hn] at h
  obtain ⟨h1, h2⟩ := h
  rw [← pos_of hx.1 hx.2, ← pos_of hy.1 hy.2, pos_inj hn]
  constructor
  · clear h2
    revert h1
    cases decide (n ≤ x) <;> cases decide (n ≤ y) <;> cases turned <;> simp
  · cases turned with
    | true =>
      simp only [if_true] at h2
      have := emod_rsub_congr h2 k
      rw [show k - (k - x) = x by omega, show k - (k - y) = y by omega] at this
      exact this
    | false =>
      simp only [Bool.false_eq_true, if_false] at h2
      have := emod_sub_congr h2 k
      rw [show x + k - k = x by omega, show y + k - k = y by omega] at this
      exact this
theorem searchL_shift {n a b : Int} (hk : isKind n a b = true) (steps : List UInt8) (s : Int) (hs : 0 ≤ s ∧ s < 2 * n) (k : Int) (turned : Bool) : searchL n a b steps (shiftI n s k turned) = (searchL n a b steps s).map fun q => (shiftI n q.1 k turned, q.2) := by
  have hn := kind_pos hk
  exact Bfs.go_map (f := stepU n a b) (g := fun x => shiftI n x k turned) (P := fun x => 0 ≤ x ∧ x < 2 * n) (fun x c _ => stepU_range hk x c)
    (fun x c hx => (walk_shift hn a b [c] x k turned hx.1 hx.2).symm) (fun x y hx hy h => shift_inj hn k turned x y hx hy h) steps 65 0 [(s, [])] (fun q hq => by
      obtain rfl : q = (s, []) := by simpa using hq
      exact hs)
theorem searchL_counts {n a b : Int} (hk : isKind n a b = true) (steps : List UInt8) (s t : Int) (hs : 0 ≤ s ∧ s < 2 * n) (ht : 0 ≤ t ∧ t < 2 * n) : Bfs.counts (searchL n a b steps t) = Bfs.counts (searchL n a b steps s) ∧ (searchL n a b steps t).length = (searchL n a b steps s).length := by
  obtain ⟨k, turned, e⟩ := shift_to s t ht.1 ht.2
  rw [← e, searchL_shift hk steps s hs]
  exact ⟨Bfs.counts_map (fun x => shiftI n x k turned) _, List.length_map _⟩
/-- The first counts. -/
theorem counts_zero {n a b : Int} (hk : isKind n a b = true) (s : List UInt8) (t : Int) (ht0 : 0 ≤ t) (ht1 : t < 2 * n) : (Bfs.counts (searchL n a b s t)).getD 0 0 = 1 := by
  have h := searchL_inv hk s t ht0 ht1
  have hpos : 1 ≤ (Bfs.counts (searchL n a b s t)).getD 0 0 := Bfs.counts_pos (searchL_par n a b s t) (by
    have := Bfs.counts_length _ _ (List.mem_of_getElem? h.first)
    omega)
  have hle : (searchL n a b s t).countP (fun p => decide (p.2.length = 0)) ≤ 1 := by
    rw [List.countP_eq_length_filter]
    have := Bfs.nodup_length (((searchL n a b s t).filter fun p => decide (p.2.length = 0)).map (·.1)) [t] ((List.filter_sublist.map _).nodup h.nodup) (fun x hx => by
      obtain ⟨q, hq, rfl⟩ := List.mem_map.1 hx
      obtain ⟨h1, h2⟩ := List.mem_filter.1 hq
      have h3 := (h.leads q h1).1
      rw [List.length_eq_zero_iff.1 (of_decide_eq_true h2)] at h3
      rw [h3]
      exact List.mem_singleton.2 rfl)
    simpa using this
  rw [Bfs.counts_getD] at hpos ⊢
  omega
theorem words_nodup {n a b : Int} (hk : isKind n a b = true) (s : List UInt8) (t : Int) (ht0 : 0 ≤ t) (ht1 : t < 2 * n) : ((searchL n a b s t).map (·.2)).Nodup := by
  have h := searchL_inv hk s t ht0 ht1
  have h1 := h.nodup
  unfold List.Nodup at h1 ⊢
  rw [List.pairwise_map] at h1 ⊢
  refine List.Pairwise.imp_of_mem ?_ h1
  intro q r hq hr hne e
  exact hne (by rw [(h.leads q hq).1, (h.leads r hr).1, e])
theorem counts_one {n a b : Int} (hk : isKind n a b = true) (s : List UInt8) (t : Int) (ht0 : 0 ≤ t) (ht1 : t < 2 * n) : (Bfs.counts (searchL n a b s t)).getD 1 0 ≤ (s.length : Int) := by
  have h := searchL_inv hk s t ht0 ht1
  have hle : (searchL n a b s t).countP (fun p => decide (p.2.length = 1)) ≤ s.length := by
    rw [List.countP_eq_length_filter]
    have := Bfs.nodup_length (((searchL n a b s t).filter fun p => decide (p.2.length = 1)).map (·.2)) (s.map fun c => [c]) ((List.filter_sublist.map _).nodup (words_nodup hk s t ht0 ht1)) (fun x hx => by
      obtain ⟨q, hq, rfl⟩ := List.mem_map.1 hx
      obtain ⟨h1, h2⟩ := List.mem_filter.1 hq
      obtain ⟨c, hc⟩ := List.length_eq_one_iff.1 (of_decide_eq_true h2)
      rw [hc]
      exact List.mem_map.2 ⟨c, (h.leads q h1).2 c (by rw [hc]; exact List.mem_singleton.2 rfl), rfl⟩)
    simpa using this
  rw [Bfs.counts_getD]
  omega
theorem step_ne {n a b : Int} (hk : isKind n a b = true) (t c : Int) : stepI n a b t c ≠ t := by
  have hn := kind_pos hk
  unfold stepI
  have e := Int.emod_nonneg (t + up a b c) (show n ≠ 0 by omega)
  have l := Int.emod_lt_of_pos (t - up a b c) hn
  split <;> omega
theorem counts_two {n a b : Int} (hk : isKind n a b = true) (c : UInt8) (s : List UInt8) (t : Int) (ht0 : 0 ≤ t) (ht1 : t < 2 * n) : 1 < (Bfs.counts (searchL n a b (c :: s) t)).length := by
  have h := searchL_inv hk (c :: s) t ht0 ht1
  obtain ⟨w, hw⟩ := Bfs.known_iff.1 (h.reach [c] (fun d hd => by rw [List.mem_singleton.1 hd]; exact List.mem_cons_self))
  have h2 := Bfs.counts_length _ _ hw
  have h3 := (h.leads _ hw).1
  cases w with
  | nil => exact absurd h3 (step_ne hk t _)
  | cons x w =>
    simp only [List.length_cons] at h2
    omega
theorem size_f (n a b : Int) (hn : Int64 n) (ha : Int64 a) (hb : Int64 b) : triads_Size.f n a b = some (if isKind n a b = true then (((searchL n a b [76, 80, 82] 0).length : Int), 0) else (0, 2)) := by
  unfold triads_Size.f
  rw [valid_f n a b hn ha hb]
  simp only [Option.bind_some]
  cases hk : isKind n a b with
  | false => rfl
  | true => rfl
end Go.Proofs.YtpaeobpmkdekfaaDoor.Base
