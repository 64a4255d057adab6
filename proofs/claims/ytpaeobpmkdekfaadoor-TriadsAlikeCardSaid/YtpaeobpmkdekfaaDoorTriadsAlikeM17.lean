/- Texts that the proof of TriadsAlike needs, put together in build order by this session's program (wip/tools/claimtrim.py). -/
import Derived.Test.YtpaeobpmkdekfaaDoorTriadsAlikeM11
import Derived.Test.YtpaeobpmkdekfaaDoorTriadsAlikeM14
section
namespace Go.Proofs.YtpaeobpmkdekfaaDoor.Base
open Go.RowKit Go.Proofs.YtpaeobpmkdekfaaDoor.P Go.Proofs.YtpaeobpmkdekfaaDoor.Kit Go.Proofs.YtpaeobpmkdekfaaDoorW.PrintWords Go.Proofs.YtpaeobpmkdekfaaDoorW.PrintLast Go.Proofs.YtpaeobpmkdekfaaDoor.Tri
/-- Where a triad is led by the walks that lead triad 0 to u. -/
def act (n u t : Int) : Int := pos n (decide (n ≤ t) != decide (n ≤ u)) (if n ≤ t then t - u else t + u)
theorem act_zero {n u : Int} (hn : 0 < n) (h0 : 0 ≤ u) (h1 : u < 2 * n) : act n u 0 = u := by
  unfold act
  rw [decide_eq_false (by omega), if_neg (by omega), Int.zero_add, Bool.false_bne]
  exact pos_of h0 h1
theorem act_id {n t : Int} (hn : 0 < n) (h0 : 0 ≤ t) (h1 : t < 2 * n) : act n 0 t = t := by
  unfold act
  rw [show decide (n ≤ (0 : Int)) = false from decide_eq_false (by omega), Bool.bne_false, Int.sub_zero, Int.add_zero, ite_self]
  exact pos_of h0 h1
theorem act_range {n : Int} (hn : 0 < n) (u t : Int) : 0 ≤ act n u t ∧ act n u t < 2 * n := pos_range hn _ _
theorem act_step {n a b : Int} (hn : 0 < n) (u t : Int) (h0 : 0 ≤ u) (h1 : u < 2 * n) (c : Int) : stepI n a b (act n u t) c = act n (stepI n a b u c) t := by
  have hu := pos_of h0 h1
  have hs := step_pos hn a b (decide (n ≤ u)) u c
  rw [hu] at hs
  have hd : decide (n ≤ stepI n a b u c) = !decide (n ≤ u) := by rw [hs, pos_dark hn]
  have hm : stepI n a b u c % n = (if decide (n ≤ u) = true then u - up a b c else u + up a b c) % n := by rw [hs, pos_mod]
  unfold act
  rw [step_pos hn, hd, pos_inj hn]
  refine ⟨by cases decide (n ≤ t) <;> cases decide (n ≤ u) <;> rfl, ?_⟩
  by_cases ht : n ≤ t
  · rw [if_pos ht, if_pos ht, decide_eq_true ht]
    have := emod_rsub_congr hm t
    rw [this]
    cases decide (n ≤ u) with
    | true =>
      simp only [bne_self_eq_false, Bool.false_eq_true, if_false, if_true]
      congr 1
      omega
    | false =>
      simp only [Bool.bne_false, Bool.false_eq_true, if_false, if_true]
      congr 1
      omega
  · rw [if_neg ht, if_neg ht, decide_eq_false ht]
    have : (t + stepI n a b u c) % n = (t + (if decide (n ≤ u) = true then u - up a b c else u + up a b c)) % n := by
      rw [Int.add_emod, hm, ← Int.add_emod]
    rw [this]
    cases decide (n ≤ u) with
    | true =>
      simp only [Bool.false_bne, if_true]
      congr 1
      omega
    | false =>
      simp only [bne_self_eq_false, Bool.false_eq_true, if_false]
      congr 1
      omega
/-- All that is done so. -/
def vec (n u : Int) : List Int := (all n).map (act n u)
theorem vec_length (n u : Int) : (vec n u).length = (2 * n).toNat := by unfold vec; rw [List.length_map, all_length]
theorem all_get (n : Int) (i : Nat) (h : i < (all n).length) : (all n)[i] = (i : Int) := by simp [all]
theorem vec_get (n u : Int) (i : Nat) (h : i < (2 * n).toNat) : (vec n u)[i]? = some (act n u (i : Int)) := by
  unfold vec
  rw [List.getElem?_map, List.getElem?_eq_getElem (by rw [all_length]; exact h), all_get]
  rfl
theorem vec_rd (n u : Int) (i : Nat) (h : i < (2 * n).toNat) : rd (vec n u) (i : Int) = act n u (i : Int) := by
  unfold rd
  rw [List.getD_eq_getElem?_getD, Int.toNat_natCast, vec_get n u i h]
  rfl
theorem vec_zero {n : Int} (hn : 0 < n) : vec n 0 = all n := by
  refine List.ext_getElem? fun i => ?_
  by_cases h : i < (2 * n).toNat
  · rw [vec_get n 0 i h, List.getElem?_eq_getElem (by rw [all_length]; exact h), all_get, act_id hn (by omega) (by omega)]
  · rw [List.getElem?_eq_none (by rw [vec_length]; omega), List.getElem?_eq_none (by rw [all_length]; omega)]
def vecs (n : Int) (L : Bfs.Met Int) : List (List Int) := L.map fun q => vec n q.1
theorem vecs_length (n : Int) (L : Bfs.Met Int) : (vecs n L).length = L.length := by simp [vecs]
theorem vecs_rd (n : Int) (L : Bfs.Met Int) (i : Nat) (h : i < L.length) : rd_L3 (vecs n L) (i : Int) = vec n L[i].1 := by
  unfold rd_L3 vecs
  rw [List.getD_eq_getElem?_getD, Int.toNat_natCast, List.getElem?_map, List.getElem?_eq_getElem h]
  rfl
theorem good_le {n : Int} {L : Bfs.Met Int} (h : Bfs.Good n L) (h16 : n ≤ 16) : L.length ≤ 32 := by
  rcases h.length with g | g <;> omega
/-- One comparison of two rows. -/
theorem size_l5 {n a b : Int} (hn : 0 < n) (h16 : n ≤ 16) (x5 : List (List Int)) (x6 : Int) (u v : Int) (hu : 0 ≤ u ∧ u < 2 * n) (hv : 0 ≤ v ∧ v < 2 * n) (old : Bool) (x39 : List Int) (x40 x41 : Int) (x68 : List (List Int)) (x69 x70 : Int) (R : Int)
    (hE : Ev (fun k => sackbutref04_Size.l4 k x5 x6 (vec n v) (old || decide (u = v)) x39 x40 x41 x68 x69 (wrap64 (x70 + 1)) n a b) R) :
    ∀ (d i : Nat) (sm : Bool), i + d = (2 * n).toNat → ((i = 0 ∧ sm = true) ∨ (0 < i ∧ sm = decide (u = v))) → Ev (fun k => sackbutref04_Size.l5 k x5 x6 (vec n v) old (vec n u) sm x39 x40 x41 x68 x69 x70 (((2 * n).toNat : Nat) : Int) (i : Int) n a b) R
  | 0, i, sm, h, hs => by
    obtain rfl : sm = decide (u = v) := by
      rcases hs with ⟨h0, _⟩ | ⟨_, h0⟩
      · omega
      · exact h0
    refine Ev.step (fun k => ?_) hE
    simp only [sackbutref04_Size.l5]
    rw [if_neg (by omega)]
    cases old with
    | true => rfl
    | false => rfl
  | d + 1, i, sm, h, hs => by
    have hi : i < (2 * n).toNat := by omega
    have l1 := vec_length n u
    have l2 := vec_length n v
    cases sm with
    | true =>
      have e : decide (act n u (i : Int) = act n v (i : Int)) = decide (u = v) := by
        rcases hs with ⟨h0, _⟩ | ⟨_, h0⟩
        · subst h0
          rw [show ((0 : Nat) : Int) = 0 from rfl, act_zero hn hu.1 hu.2, act_zero hn hv.1 hv.2]
        · obtain rfl : u = v := of_decide_eq_true h0.symm
          rw [decide_eq_true rfl, decide_eq_true rfl]
      have ih := size_l5 hn h16 x5 x6 u v hu hv old x39 x40 x41 x68 x69 x70 R hE d (i + 1) (decide (u = v)) (by omega) (.inr ⟨by omega, rfl⟩)
      refine Ev.step (fun k => ?_) ih
      simp only [sackbutref04_Size.l5]
      rw [if_pos (by omega), if_pos trivial, if_pos (by omega), if_pos (by omega), if_pos (by omega), vec_rd n u i hi, vec_rd n v i hi, w64 (x := (i : Int) + 1) (by omega) (by omega), ← e]
      rfl
    | false =>
      have hf : decide (u = v) = false := by
        rcases hs with ⟨_, h0⟩ | ⟨_, h0⟩
        · cases h0
        · exact h0.symm
      have ih := size_l5 hn h16 x5 x6 u v hu hv old x39 x40 x41 x68 x69 x70 R hE d (i + 1) false (by omega) (.inr ⟨by omega, hf.symm⟩)
      refine Ev.step (fun k => ?_) ih
      simp only [sackbutref04_Size.l5]
      rw [if_pos (by omega), if_neg (by decide), w64 (x := (i : Int) + 1) (by omega) (by omega)]
      rfl
theorem known_take (L : Bfs.Met Int) (v : Int) (j : Nat) (h : j < L.length) : Bfs.known (L.take (j + 1)) v = (Bfs.known (L.take j) v || decide (L[j].1 = v)) := by
  rw [List.take_succ_eq_append_getElem h, Bfs.known_append]
  congr 1
  simp [Bfs.known]
/-- Whether a row is known. -/
theorem size_l4 {n a b : Int} (hn : 0 < n) (h16 : n ≤ 16) (L : Bfs.Met Int) (hg : Bfs.Good n L) (x6 : Int) (v : Int) (hv : 0 ≤ v ∧ v < 2 * n) (x39 : List Int) (x40 x41 : Int) (w : List UInt8) (R : Int)
    (hE : Ev (fun k => sackbutref04_Size.l2 k (vecs n (if Bfs.known L v = true then L else L ++ [(v, w)])) x6 x39 x40 (wrap64 (x41 + 1)) n a b) R) :
    ∀ (d j : Nat), j + d = L.length → Ev (fun k => sackbutref04_Size.l4 k (vecs n L) x6 (vec n v) (Bfs.known (L.take j) v) x39 x40 x41 (vecs n L) (L.length : Int) (j : Int) n a b) R
  | 0, j, h => by
    have h32 := good_le hg h16
    refine Ev.step (fun k => ?_) hE
    simp only [sackbutref04_Size.l4]
    rw [if_neg (by omega), List.take_of_length_le (by omega), vecs_length]
    cases hk : Bfs.known L v with
    | true => simp only [if_true]
    | false =>
      simp only [Bool.false_eq_true, if_false]
      rw [if_pos (by omega)]
      congr 1
      simp [vecs]
  | d + 1, j, h => by
    have h32 := good_le hg h16
    have hj : j < L.length := by omega
    have hr := hg.range _ (List.getElem_mem hj)
    have ih := size_l4 hn h16 L hg x6 v hv x39 x40 x41 w R hE d (j + 1) (by omega)
    rw [known_take L v j hj] at ih
    have hw : wrap64 ((j : Int) + 1) = ((j + 1 : Nat) : Int) := by rw [w64 (by omega) (by omega)]; rfl
    rw [← hw] at ih
    refine Ev.step (fun k => ?_) (size_l5 hn h16 (vecs n L) x6 L[j].1 v hr hv (Bfs.known (L.take j) v) x39 x40 x41 (vecs n L) (L.length : Int) (j : Int) R ih (2 * n).toNat 0 true (by omega) (.inl ⟨rfl, rfl⟩))
    simp only [sackbutref04_Size.l4]
    rw [if_pos (by omega), if_pos (by omega), if_pos (by rw [vecs_length]; omega), vecs_rd n L j hj, vec_length]
    rfl
/-- A new row. -/
theorem size_l3 {n a b : Int} (hk : isKind n a b = true) (L : Bfs.Met Int) (i : Nat) (hi : i < L.length) (hr : 0 ≤ L[i].1 ∧ L[i].1 < 2 * n) (c : Int) (x39 : List Int) (x40 x41 : Int) (R : Int)
    (hE : Ev (fun k => sackbutref04_Size.l4 k (vecs n L) (i : Int) (vec n (stepI n a b L[i].1 c)) false x39 x40 x41 (vecs n L) (L.length : Int) 0 n a b) R) :
    ∀ (d s : Nat) (A : List Int), s + d = (2 * n).toNat → A.length = (2 * n).toNat → (∀ (q : Nat), q < s → A[q]? = some (act n (stepI n a b L[i].1 c) (q : Int))) → Ev (fun k => sackbutref04_Size.l3 k (vecs n L) (i : Int) c A x39 x40 x41 (((2 * n).toNat : Nat) : Int) (s : Int) n a b) R
  | 0, s, A, h, hl, hA => by
    have e : A = vec n (stepI n a b L[i].1 c) := by
      refine List.ext_getElem? fun q => ?_
      by_cases hq : q < (2 * n).toNat
      · rw [hA q (by omega), vec_get n _ q hq]
      · rw [List.getElem?_eq_none (by omega), List.getElem?_eq_none (by rw [vec_length]; omega)]
    refine Ev.step (fun k => ?_) hE
    simp only [sackbutref04_Size.l3]
    rw [if_neg (by omega), e, vecs_length]
  | d + 1, s, A, h, hl, hA => by
    have hn := kind_pos hk
    have h16 := (of_decide_eq_true hk).2.1
    have hs : s < (2 * n).toNat := by omega
    have har := act_range hn L[i].1 (s : Int)
    refine Ev.step (fun k => ?_) (size_l3 hk L i hi hr c x39 x40 x41 R hE d (s + 1) (A.set s (act n (stepI n a b L[i].1 c) (s : Int))) (by omega) (by rw [List.length_set]; exact hl) ?_)
    · simp only [sackbutref04_Size.l3]
      rw [if_pos (by omega), if_pos (by omega), if_pos (by rw [vecs_length]; omega), if_pos (by omega), vecs_rd n L i hi, vec_length, if_pos (by omega), vec_rd n _ s hs, rStep_f hk _ c har.1 har.2, act_step hn _ _ hr.1 hr.2 c]
      simp only [Option.bind_some]
      rw [if_pos (by omega), Int.toNat_natCast, w64 (x := (s : Int) + 1) (by omega) (by omega)]
      rfl
    · intro q hq
      by_cases e : s = q
      · subst e
        rw [List.getElem?_set_self (by omega)]
      · rw [List.getElem?_set_ne e]
        exact hA q (by omega)
/-- One round of the search. -/
theorem size_l2 {n a b : Int} (hk : isKind n a b = true) (L0 : Bfs.Met Int) (i : Nat) (hi : i < L0.length) (R : Int)
    (hE : Ev (fun k => sackbutref04_Size.l1 k (vecs n (Bfs.visit (stepU n a b) L0[i] [76, 80, 82] L0)) (wrap64 ((i : Int) + 1)) n a b) R) :
    ∀ (d j : Nat), j + d = 3 → Bfs.Good n (Bfs.visit (stepU n a b) L0[i] (([76, 80, 82] : List UInt8).take j) L0) → Ev (fun k => sackbutref04_Size.l2 k (vecs n (Bfs.visit (stepU n a b) L0[i] (([76, 80, 82] : List UInt8).take j) L0)) (i : Int) [76, 80, 82] 3 (j : Int) n a b) R
  | 0, j, h, hg => by
    obtain rfl : j = 3 := by omega
    refine Ev.step (fun k => ?_) hE
    simp only [sackbutref04_Size.l2]
    rw [if_neg (by omega)]
    rfl
  | d + 1, j, h, hg => by
    have hn := kind_pos hk
    have h16 := (of_decide_eq_true hk).2.1
    have hj : j < 3 := by omega
    obtain ⟨M, hM⟩ : ∃ M, M = Bfs.visit (stepU n a b) L0[i] (([76, 80, 82] : List UInt8).take j) L0 := ⟨_, rfl⟩
    obtain ⟨c, hc⟩ : ∃ c, c = ([76, 80, 82] : List UInt8).getD j 0 := ⟨_, rfl⟩
    have hpre := Bfs.visit_prefix (stepU n a b) L0[i] (([76, 80, 82] : List UInt8).take j) L0
    rw [← hM] at hpre
    have hiM : i < M.length := Nat.lt_of_lt_of_le hi hpre.length_le
    have hMi : M[i] = L0[i] := by
      obtain ⟨Q, hQ⟩ := hpre
      have : M[i]? = L0[i]? := by rw [← hQ, List.getElem?_append_left hi]
      rw [List.getElem?_eq_getElem hiM, List.getElem?_eq_getElem hi] at this
      exact Option.some.inj this
    rw [← hM] at hg ⊢
    have hvt := Bfs.visit_take (stepU n a b) L0[i] [76, 80, 82] L0 j hj
    rw [← hM, ← hc] at hvt
    have hcr : rd ([76, 80, 82] : List Int) (j : Int) = (c.toNat : Int) := by
      rw [hc]
      rcases (show j = 0 ∨ j = 1 ∨ j = 2 by omega) with rfl | rfl | rfl <;> rfl
    have hmem : L0[i] ∈ M := by rw [← hMi]; exact List.getElem_mem hiM
    have hgp := Bfs.Good.put hg hmem c (stepU_range hk _ c)
    rw [← hvt] at hgp
    have ih := size_l2 hk L0 i hi R hE d (j + 1) (by omega) hgp
    have hw : wrap64 ((j : Int) + 1) = ((j + 1 : Nat) : Int) := by rw [w64 (by omega) (by omega)]; rfl
    rw [hvt] at ih
    have hput : Bfs.put (stepU n a b) L0[i] M c = if Bfs.known M (stepU n a b L0[i].1 c) = true then M else M ++ [(stepU n a b L0[i].1 c, L0[i].2 ++ [c])] := rfl
    rw [hput, ← hw] at ih
    have hst := stepU_range hk L0[i].1 c
    have h4 := size_l4 hn h16 M hg (i : Int) (stepU n a b L0[i].1 c) hst [76, 80, 82] 3 (j : Int) (L0[i].2 ++ [c]) R ih M.length 0 (by omega)
    have hr := hg.range _ (List.getElem_mem hiM)
    have h3 := size_l3 hk M i hiM hr (c.toNat : Int) [76, 80, 82] 3 (j : Int) R (by rw [hMi]; exact h4) (2 * n).toNat 0 (List.replicate (2 * n).toNat 0) (by omega) (by rw [List.length_replicate]) (fun q hq => by omega)
    refine Ev.step (fun k => ?_) h3
    simp only [sackbutref04_Size.l2]
    have g1 : 0 ≤ 2 * n := by omega
    have g2 : (2 * n).toNat ≤ 35184372088832 := by omega
    rw [if_pos (by omega), if_pos (by omega), if_pos (by show (j : Int) < 3; omega), w64 (x := 2 * n) (by omega) (by omega), if_pos g1, if_pos g2]
    simp only [Option.bind_some, List.length_replicate]
    rw [hcr]
    rfl
theorem size_l1 {n a b : Int} (hk : isKind n a b = true) : ∀ (kk i : Nat) (L : Bfs.Met Int), Bfs.Inv (stepU n a b) [76, 80, 82] 0 i L → Bfs.Good n L → (2 * n).toNat < kk + i → Ev (fun k => sackbutref04_Size.l1 k (vecs n L) (i : Int) n a b) (((Bfs.go (stepU n a b) [76, 80, 82] kk i L).length : Nat) : Int)
  | 0, i, L, h, hg, hf => by
    have h16 := (of_decide_eq_true hk).2.1
    have h1 := h.le
    have h2 : (L.length : Int) ≤ 2 * n := by
      rcases hg.length with g | g
      · exact g
      · have := kind_pos hk
        omega
    omega
  | kk + 1, i, L, h, hg, hf => by
    have h16 := (of_decide_eq_true hk).2.1
    have h32 := good_le hg h16
    by_cases hi : i < L.length
    · rw [go_more _ _ _ _ _ hi (by omega)]
      have hp : L[i]? = some L[i] := List.getElem?_eq_getElem hi
      have hgv : Bfs.Good n (Bfs.visit (stepU n a b) L[i] [76, 80, 82] L) := by
        have m0 := List.getElem_mem hi
        have g1 := Bfs.Good.put hg m0 76 (stepU_range hk _ _)
        have m1 := (Bfs.put_prefix (stepU n a b) L[i] L 76).subset m0
        have g2 := Bfs.Good.put g1 m1 80 (stepU_range hk _ _)
        have m2 := (Bfs.put_prefix (stepU n a b) L[i] _ 80).subset m1
        exact Bfs.Good.put g2 m2 82 (stepU_range hk _ _)
      have ih := size_l1 hk kk (i + 1) _ (h.next hp) hgv (by omega)
      have hw : wrap64 ((i : Int) + 1) = ((i + 1 : Nat) : Int) := by rw [w64 (by omega) (by omega)]; rfl
      rw [← hw] at ih
      have h2 := size_l2 hk L i hi _ ih 3 0 (by omega) hg
      refine Ev.step (fun k => ?_) h2
      simp only [sackbutref04_Size.l1]
      rw [if_pos (by rw [vecs_length]; omega)]
      rfl
    · rw [go_end _ _ _ _ _ (by omega)]
      refine Ev.done fun k => ?_
      simp only [sackbutref04_Size.l1]
      rw [if_neg (by rw [vecs_length]; omega), vecs_length]
theorem size_l0 {n a b : Int} (hk : isKind n a b = true) (R : Int) (hE : Ev (fun k => sackbutref04_Size.l1 k [all n] 0 n a b) R) : ∀ (d i : Nat) (A : List Int), i + d = (2 * n).toNat → A.length = (2 * n).toNat → (∀ q : Nat, q < i → A[q]? = some (q : Int)) → Ev (fun k => sackbutref04_Size.l0 k A (((2 * n).toNat : Nat) : Int) (i : Int) n a b) R
  | 0, i, A, h, hl, hA => by
    have e : A = all n := by
      refine List.ext_getElem? fun q => ?_
      by_cases hq : q < (2 * n).toNat
      · rw [hA q (by omega), List.getElem?_eq_getElem (by rw [all_length]; exact hq), all_get]
      · rw [List.getElem?_eq_none (by omega), List.getElem?_eq_none (by rw [all_length]; omega)]
    refine Ev.step (fun k => ?_) hE
    simp only [sackbutref04_Size.l0]
    rw [if_neg (by omega), e]
  | d + 1, i, A, h, hl, hA => by
    have h16 := (of_decide_eq_true hk).2.1
    refine Ev.step (fun k => ?_) (size_l0 hk R hE d (i + 1) (A.set i (i : Int)) (by omega) (by rw [List.length_set]; exact hl) ?_)
    · simp only [sackbutref04_Size.l0]
      rw [if_pos (by omega), if_pos (by omega), if_pos (by omega), Int.toNat_natCast, w64 (x := (i : Int) + 1) (by omega) (by omega)]
      rfl
    · intro q hq
      by_cases e : i = q
      · subst e
        rw [List.getElem?_set_self (by omega)]
      · rw [List.getElem?_set_ne e]
        exact hA q (by omega)
theorem rSize_f {n a b : Int} (hk : isKind n a b = true) : Ev (fun k => sackbutref04_Size.f k n a b) (((searchL n a b [76, 80, 82] 0).length : Nat) : Int) := by
  have hn := kind_pos hk
  have h16 := (of_decide_eq_true hk).2.1
  unfold sackbutref04_Size.f
  rw [w64 (x := 2 * n) (by omega) (by omega)]
  have g1 : 0 ≤ 2 * n := by omega
  have g2 : (2 * n).toNat ≤ 35184372088832 := by omega
  simp only [g1, g2, if_true, Option.bind_some, List.length_replicate]
  have hl := size_l1 hk 65 0 [(0, [])] (Bfs.Inv.start _ _ _) (Bfs.Good.start (by omega) (by omega)) (by omega)
  have e : vecs n [((0 : Int), ([] : List UInt8))] = [all n] := by
    show [vec n 0] = [all n]
    rw [vec_zero hn]
  rw [e] at hl
  exact size_l0 hk _ hl (2 * n).toNat 0 _ (by omega) (by rw [List.length_replicate]) (fun q hq => by omega)
end Go.Proofs.YtpaeobpmkdekfaaDoor.Base
end
