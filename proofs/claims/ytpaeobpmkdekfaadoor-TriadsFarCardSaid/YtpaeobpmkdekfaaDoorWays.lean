/- The search of the reference: the walk through its code. -/
import Derived.Test.YtpaeobpmkdekfaaDoorP0
import Derived.Test.YtpaeobpmkdekfaaDoorP6
import Derived.Test.YtpaeobpmkdekfaaDoorFar
import Derived.Lib.SlBytesConst
namespace Go.Proofs.YtpaeobpmkdekfaaDoor.P
open Go.RowKit Go.Proofs.YtpaeobpmkdekfaaDoorW.PrintWords Go.Proofs.YtpaeobpmkdekfaaDoorW.PrintLast Go.Proofs.YtpaeobpmkdekfaaDoorW.PrintMore
set_option linter.unusedVariables false
set_option linter.unusedSimpArgs false
section
open Go.Proofs.YtpaeobpmkdekfaaDoor.MapLaws Go.Proofs.YtpaeobpmkdekfaaDoor.Base
/-- Each triad's word, and whether it has been met. -/
def wayL (m : Nat) (L : Bfs.Met Int) : List ByteArray := (List.range m).map fun (u : Nat) => ⟨((wordOf L (u : Int)).getD []).toArray⟩
def metL (m : Nat) (L : Bfs.Met Int) : List Bool := (List.range m).map fun (u : Nat) => Bfs.known L (u : Int)
def sackbutref04_ways.f (a0_0 a0_1 a0_2 a1 : Int) : Option (List ByteArray × List Bool) := if isKind a0_0 a0_1 a0_2 = true ∧ 0 ≤ a1 ∧ a1 < 2 * a0_0 then some (wayL (2 * a0_0).toNat (searchL a0_0 a0_1 a0_2 [76, 80, 82] a1), metL (2 * a0_0).toNat (searchL a0_0 a0_1 a0_2 [76, 80, 82] a1)) else none
theorem rd_met (m : Nat) (L : Bfs.Met Int) (q : Int) (h0 : 0 ≤ q) (h1 : q < (m : Int)) : rdOf false (metL m L) q = Bfs.known L q := by
  show (metL m L).getD q.toNat false = _
  rw [List.getD_eq_getElem?_getD, List.getElem?_eq_getElem (by simp [metL]; omega)]
  simp only [metL, List.getElem_map, List.getElem_range, Option.getD_some]
  congr 1
  omega
theorem rd_way (m : Nat) (L : Bfs.Met Int) (q : Int) (h0 : 0 ≤ q) (h1 : q < (m : Int)) : rdOf ByteArray.empty (wayL m L) q = ⟨((wordOf L q).getD []).toArray⟩ := by
  show (wayL m L).getD q.toNat ByteArray.empty = _
  rw [List.getD_eq_getElem?_getD, List.getElem?_eq_getElem (by simp [wayL]; omega)]
  simp only [wayL, List.getElem_map, List.getElem_range, Option.getD_some]
  rw [show ((q.toNat : Nat) : Int) = q by omega]
theorem wordOf_mem {L : Bfs.Met Int} (hn : (L.map (·.1)).Nodup) {y : Int} {u : List UInt8} (h : (y, u) ∈ L) : wordOf L y = some u := by
  cases hw : wordOf L y with
  | none =>
    have := wordOf_none hw
    rw [Bfs.known_iff.2 ⟨u, h⟩] at this
    cases this
  | some v => rw [key_unique hn (wordOf_some hw) h]
theorem marked_grown {α : Type} {d : Kd α} {e base : Nat} {ok : Nat → Prop} {v : Value} {xs : List α} {w w1 : World} {b : Nat} {cells : Array Value} {t : TypeId} {fr : Nat × Nat} (h : w.heap[b]? = some (.cells cells t fr)) (hR : d.R e w base ok v xs) (ht : t ≠ e) (hg : w.grownBy w1 v.ownBlock) : w1.heap[b]? = some (.cells cells t fr) := by
  refine (hg.block b (blk_lt h) ?_).trans h
  intro he
  obtain ⟨cells', hc⟩ := Kd.R_typed hR b he.symm
  rw [h] at hc
  injection hc with hc
  injection hc with _ h2 _
  exact ht h2
theorem bytes_snoc (l : List UInt8) (c : UInt8) : (⟨l.toArray⟩ ++ ⟨#[c]⟩ : ByteArray) = ⟨(l ++ [c]).toArray⟩ := by
  apply ByteArray.ext
  simp
theorem wayL_length (m : Nat) (L : Bfs.Met Int) : (wayL m L).length = m := by simp [wayL]
theorem metL_length (m : Nat) (L : Bfs.Met Int) : (metL m L).length = m := by simp [metL]
theorem wordOf_snoc (L : Bfs.Met Int) (q : Int) (u : List UInt8) (hk : Bfs.known L q = false) (y : Int) : wordOf (L ++ [(q, u)]) y = if y = q then some u else wordOf L y := by
  unfold wordOf
  rw [List.find?_append]
  by_cases e : y = q
  · subst e
    have : List.find? (fun p => decide (p.1 = y)) L = none := by
      rw [List.find?_eq_none]
      intro p hp hd
      have e : p.1 = y := of_decide_eq_true hd
      rw [Bfs.known_iff.2 ⟨p.2, e ▸ hp⟩] at hk
      cases hk
    rw [this, if_pos rfl]
    simp
  · have h1 : ¬ q = y := fun h => e h.symm
    rw [if_neg e]
    simp [h1]
theorem wayL_snoc (m : Nat) (L : Bfs.Met Int) (q : Int) (u : List UInt8) (hk : Bfs.known L q = false) (h0 : 0 ≤ q) : wayL m (L ++ [(q, u)]) = (wayL m L).set q.toNat ⟨u.toArray⟩ := by
  apply List.ext_getElem
  · simp [wayL]
  · intro i h1 h2
    simp only [wayL, List.getElem_map, List.getElem_range, List.getElem_set]
    rw [wordOf_snoc L q u hk]
    by_cases e : q.toNat = i
    · rw [if_pos (show (i : Int) = q by omega), if_pos e]
      rfl
    · rw [if_neg (show ¬ (i : Int) = q by omega), if_neg e]
theorem metL_snoc (m : Nat) (L : Bfs.Met Int) (q : Int) (u : List UInt8) (h0 : 0 ≤ q) : metL m (L ++ [(q, u)]) = (metL m L).set q.toNat true := by
  apply List.ext_getElem
  · simp [metL]
  · intro i h1 h2
    simp only [metL, List.getElem_map, List.getElem_range, List.getElem_set]
    rw [Bfs.known_append]
    by_cases e : q.toNat = i
    · rw [if_pos e]
      have : Bfs.known [(q, u)] (i : Int) = true := by simp [Bfs.known]; omega
      rw [this, Bool.or_true]
    · rw [if_neg e]
      have : Bfs.known [(q, u)] (i : Int) = false := by simp [Bfs.known]; omega
      rw [this, Bool.or_false]
theorem wayL_start (m : Nat) (t : Int) : List.replicate m (⟨#[]⟩ : ByteArray) = wayL m [(t, [])] := by
  apply List.ext_getElem
  · simp [wayL]
  · intro i h1 h2
    simp only [wayL, List.getElem_map, List.getElem_range, List.getElem_replicate]
    unfold wordOf
    by_cases e : t = (i : Int)
    · simp [e]
    · simp [e]
theorem metL_start (m : Nat) (t : Int) (h0 : 0 ≤ t) : (List.replicate m false).set t.toNat true = metL m [(t, [])] := by
  apply List.ext_getElem
  · simp [metL]
  · intro i h1 h2
    simp only [metL, List.getElem_map, List.getElem_range, List.getElem_set, List.getElem_replicate, Bfs.known, List.any_cons, List.any_nil, Bool.or_false]
    by_cases e : t.toNat = i
    · rw [if_pos e]; symm; exact decide_eq_true (by omega)
    · rw [if_neg e]; symm; exact decide_eq_false (by omega)
def sackbutref04_ways.T1 : Bool × List (List Nat × List Nat) := (true, [([], []), ([0], [0]), ([1], [1]), ([2, 2], [2]), ([], []), ([4], [4]), ([5], [5]), ([6, 6], [6]), ([3, 0, 1, 2, 3], [3]), ([7, 8, 0, 1, 2, 3, 4, 5, 6, 7, 8], [7])])
def sackbutref04_ways.B1 : List Nat := [0, 1, 3, 7, 0, 16, 48, 112, 15, 511]
theorem sackbutref04_ways.tab1 : rtab .any (opsOf Tryd.f65 1) = sackbutref04_ways.T1 := by kernel_rfl
theorem sackbutref04_ways.bits1 : waitsOk sackbutref04_ways.T1.2 sackbutref04_ways.B1 = true := by kernel_rfl
def sackbutref04_ways.T10 : Bool × List (List Nat × List Nat) := (true, [([], []), ([], []), ([], []), ([1, 2], [1, 2]), ([3], [3]), ([], []), ([0, 4, 5], [0, 4, 5]), ([6, 6, 0, 1, 2, 3, 4, 5, 6], [6])])
def sackbutref04_ways.B10 : List Nat := [0, 0, 0, 6, 14, 0, 63, 127]
theorem sackbutref04_ways.tab10 : rtab .any (opsOf Tryd.f65 10) = sackbutref04_ways.T10 := by kernel_rfl
theorem sackbutref04_ways.bits10 : waitsOk sackbutref04_ways.T10.2 sackbutref04_ways.B10 = true := by kernel_rfl
set_option maxHeartbeats 8000000 in
set_option maxRecDepth 100000 in
theorem sackbutref04_ways.calls (a0_0 : Int) (a0_1 : Int) (a0_2 : Int) (a1 : Int) (r1 : List ByteArray) (r2 : List Bool) (w : World) (h : sackbutref04_ways.f a0_0 a0_1 a0_2 a1 = some (r1, r2)) :
    Calls Tryd.prog 65 #[.agg #[.int .i64 a0_0, .int .i64 a0_1, .int .i64 a0_2], .int .i64 a1] w fun e w' => ∃ v0_ v1_ : Value, e = .returned (.tuple #[v0_, v1_]) ∧ Kd.R Kd.string 9 w' w.heap.size (fun _ => True) v0_ r1 ∧ Kd.R Kd.bool 4 w' w.heap.size (fun _ => True) v1_ r2 ∧ Below w.heap.size w w' := by
  have hu23 := Tryd.underlying23
  have HB := Aside0.mk (Below.refl w.heap.size w)
  unfold sackbutref04_ways.f at h
  by_cases hr : isKind a0_0 a0_1 a0_2 = true ∧ 0 ≤ a1 ∧ a1 < 2 * a0_0
  case neg => rw [if_neg hr] at h; cases h
  rw [if_pos hr] at h
  obtain ⟨hk, c7, hp2⟩ := hr
  have hn5 : 5 ≤ a0_0 := (of_decide_eq_true hk).1
  have hn16 : a0_0 ≤ 16 := (of_decide_eq_true hk).2.1
  obtain ⟨hr1, hr2⟩ : wayL (2 * a0_0).toNat (searchL a0_0 a0_1 a0_2 [76, 80, 82] a1) = r1 ∧ metL (2 * a0_0).toNat (searchL a0_0 a0_1 a0_2 [76, 80, 82] a1) = r2 := by simpa using h
  obtain ⟨R, hR⟩ : ∃ R, R = searchL a0_0 a0_1 a0_2 [76, 80, 82] a1 := ⟨_, rfl⟩
  rw [← hR] at hr1 hr2
  have HR := Aside0.mk (show Bfs.go (stepU a0_0 a0_1 a0_2) [76, 80, 82] 65 0 [(a1, [])] = R from hR.symm)
  have HGood := Aside0.mk (Bfs.Good.start (n := a0_0) c7 hp2)
  have HK := Aside0.mk hk
  obtain ⟨ji3, hji3⟩ : ∃ j_ : Int, (wrap64 (2 * a0_0)) = j_ := ⟨_, rfl⟩
  have hji3w : (IntKind.i64.wrap (2 * a0_0)) = ji3 := (i64_w _).trans hji3
  have hji : ji3 = 2 * a0_0 := by rw [← hji3]; unfold wrap64; omega
  have HR1 := Aside0.mk (show wayL ji3.toNat R = r1 by rw [hji]; exact hr1)
  have HR2 := Aside0.mk (show metL ji3.toNat R = r2 by rw [hji]; exact hr2)
  have c4 : 0 ≤ ji3 := by omega
  have c5 : ji3.toNat ≤ 17592186044416 := by omega
  have c6 : ji3.toNat ≤ 281474976710656 := by omega
  have c4b0 := eq_true c4
  have c4b1 : decide (0 ≤ (ji3)) = true := decide_eq_true c4
  have c5b0 := eq_true c5
  have c5b1 : decide ((ji3 : Int).toNat ≤ 17592186044416) = true := decide_eq_true c5
  have c6b0 := eq_true c6
  have c6b1 : decide ((ji3 : Int).toNat ≤ 281474976710656) = true := decide_eq_true c6
  have c7b0 : decide (0 ≤ a1) = true := decide_eq_true c7
  obtain ⟨y149, hy149⟩ : ∃ y_ : List ByteArray, y_ = (List.replicate (ji3 : Int).toNat (⟨#[]⟩ : ByteArray)) := ⟨_, rfl⟩
  have Ny149 := Aside0.mk hy149
  obtain ⟨y152, hy152⟩ : ∃ y_ : List Bool, y_ = (List.replicate (ji3 : Int).toNat false) := ⟨_, rfl⟩
  have Ny152 := Aside0.mk hy152
  have c8b0 : decide (a1 < (y152.length : Int)) = true := decide_eq_true (by rw [hy152, List.length_replicate]; omega)
  have Hlen := Aside0.mk (show (y152.length : Int) = ji3 by rw [hy152, List.length_replicate]; omega)
  obtain ⟨y155, hy155⟩ : ∃ y_ : List Bool, y_ = (y152.set (a1 : Int).toNat true) := ⟨_, rfl⟩
  have Ny155 := Aside0.mk hy155
  obtain ⟨y156, hy156⟩ : ∃ y_ : List Int, y_ = (([a1] : List Int)) := ⟨_, rfl⟩
  have Ny156 := Aside0.mk hy156
  have Hji := Aside0.mk hji
  clear hy149 hy152 hy155 hy156 c4 c5 c6 hji hr1 hr2 hR hk h
  go_enter Tryd.func65, Tryd.ntmps65
  try go_wp2_with (first | ((with_reducible refine gate_dst (N := 2) rfl ?_); refine box_event ?hg (N := 2) ?hd (cs := #[.int .i64 a0_0, .int .i64 a0_1, .int .i64 a0_2]) (t := 23) ?hr ?_; (case hd => rfl); (case hg => rfl); (case hr => first | (go_simp; done) | (go_simp; rfl)); intro gb148 hg w10 hbox hb; have n0_ := Aside0.mk (below_step (by repeat (first | (with_reducible first | exact HB.out | apply below_alloc | apply pw_below_drewN | apply below_drew1) | exact HB.out)) hb); have n1_ := Aside0.mk (hbox); have n2_ := Aside0.mk ((by rw [hg]; exact (below_size (by repeat (first | (with_reducible first | exact HB.out | apply below_alloc | apply pw_below_drewN | apply below_drew1) | exact HB.out))) : w.heap.size ≤ gb148)); have n3_ := Aside0.mk ((by rw [hg]; exact (below_size (by repeat (first | (with_reducible first | exact HB.out | apply below_alloc | apply pw_below_drewN | apply below_drew1) | exact HB.out))) : w.heap.size ≤ gb148)); clear HB; have HB := n0_; have BK148 := n1_; have GW148 := n2_; have GE148 := n3_; clear n0_ n1_ n2_ n3_; clear hb hbox hg))
  have n0_ := Aside0.mk (blk_drew BK148.out)
  have n1_ := Aside0.mk (below_drew1 HB.out)
  clear BK148
  clear HB
  have BK148 := n0_
  have HB := n1_
  clear n0_ n1_
  refine start_ (n := 10) (S := fun w' => w'.cell? ⟨gb148, 0, none⟩ = some (.int .i64 a0_0) ∧ w'.cell? ⟨gb148, 1, none⟩ = some (.int .i64 a0_1) ∧ w'.cell? ⟨gb148, 2, none⟩ = some (.int .i64 a0_2)) (ds := []) #[false, false, false, false, false, false, false, false, false, false] (by kernel_rfl) rfl rfl ⟨(blk_cell BK148.out 0).trans rfl, (blk_cell BK148.out 1).trans rfl, (blk_cell BK148.out 2).trans rfl⟩ (fun hHeld => ?_); refine with_tabW sackbutref04_ways.tab1 sackbutref04_ways.bits1 (fun HT_ HW_ => ?_)
  generalize w10.drew = w11 at BK148 HB hHeld ⊢
  refine pure_ (i := 0) (N := some 13) (v := ?_) (a' := ?_) #[true, false, false, false, false, false, false, false, false, false] rfl rfl (any_of HT_.out (by kernel_rfl)) (fun _ _ _ h => h) (Or.inl ⟨by rfl, ?_⟩) ?_ ?_
  rotate_left
  · intro w'
    go_simp
    with_reducible rfl
  rotate_left
  · simp only [Act.put, List.setIfInBounds_toArray, List.set_cons_zero, List.set_cons_succ, i64_w, i32_w]
    rfl
  refine pure_ (i := 4) (N := some 17) (v := ?_) (a' := ?_) #[true, false, false, false, true, false, false, false, false, false] rfl rfl (any_of HT_.out (by kernel_rfl)) (fun _ _ _ h => h) (Or.inl ⟨by rfl, ?_⟩) ?_ ?_
  rotate_left
  · intro w'
    go_simp
    with_reducible rfl
  rotate_left
  · simp only [Act.put, List.setIfInBounds_toArray, List.set_cons_zero, List.set_cons_succ, i64_w, i32_w]
    rfl
  refine take_ (i := 1) (N := some 14) (v := ?_) (a' := ?_) #[true, true, false, false, true, false, false, false, false, false] rfl rfl (take_ofW HT_.out HW_.out (by kernel_rfl)) (fun _ _ _ h => h) (Or.inl ⟨by rfl, ?_⟩) hHeld ?_ ?_
  rotate_left
  · rintro w' ⟨s0, s1, s2⟩
    go_simp
    with_reducible rfl
  rotate_left
  · simp only [Act.put, List.setIfInBounds_toArray, List.set_cons_zero, List.set_cons_succ, i64_w, i32_w]
    rfl
  refine pure_ (i := 2) (N := some 15) (v := ?_) (a' := ?_) #[true, true, true, false, true, false, false, false, false, false] rfl rfl (any_of HT_.out (by kernel_rfl)) (fun _ _ _ h => h) (Or.inl ⟨by rfl, ?_⟩) ?_ ?_
  rotate_left
  · intro w'
    go_simp
    with_reducible rfl
  rotate_left
  · simp only [Act.put, List.setIfInBounds_toArray, List.set_cons_zero, List.set_cons_succ, i64_w, i32_w]
    rfl
  refine take_ (i := 5) (N := some 18) (v := ?_) (a' := ?_) #[true, true, true, false, true, true, false, false, false, false] rfl rfl (take_ofW HT_.out HW_.out (by kernel_rfl)) (fun _ _ _ h => h) (Or.inl ⟨by rfl, ?_⟩) hHeld ?_ ?_
  rotate_left
  · rintro w' ⟨s0, s1, s2⟩
    go_simp
    with_reducible rfl
  rotate_left
  · simp only [Act.put, List.setIfInBounds_toArray, List.set_cons_zero, List.set_cons_succ, i64_w, i32_w]
    rfl
  refine pure_ (i := 6) (N := some 19) (v := ?_) (a' := ?_) #[true, true, true, false, true, true, true, false, false, false] rfl rfl (any_of HT_.out (by kernel_rfl)) (fun _ _ _ h => h) (Or.inl ⟨by rfl, ?_⟩) ?_ ?_
  rotate_left
  · intro w'
    go_simp
    with_reducible rfl
  rotate_left
  · simp only [Act.put, List.setIfInBounds_toArray, List.set_cons_zero, List.set_cons_succ, i64_w, i32_w]
    rfl
  refine join_ (σ := Value × Value) 1 #[true, true, true, true, true, true, true, true, true, false] (fun s_ => [(16, s_.1), (20, s_.2), (6, s_.1)]) (fun s_ w' => (w'.cell? ⟨gb148, 0, none⟩ = some (.int .i64 a0_0) ∧ w'.cell? ⟨gb148, 1, none⟩ = some (.int .i64 a0_1) ∧ w'.cell? ⟨gb148, 2, none⟩ = some (.int .i64 a0_2)) ∧ (Kd.R Kd.string 9 w' w.heap.size (fun _ => True) s_.1 y149) ∧ (Kd.R Kd.bool 4 w' w.heap.size (fun _ => True) s_.2 y152) ∧ (w'.heap[gb148]? = some (.cells #[.int .i64 a0_0, .int .i64 a0_1, .int .i64 a0_2] 23 (0, 0))) ∧ (Below w.heap.size w w')) ?_ ?_
  rotate_left
  · intro hCont
    refine two_ (i := 3) (j := 7) (Ni := some 16) (Nj := some 20) #[true, true, true, true, true, true, true, false, false, false] #[true, true, true, false, true, true, true, true, false, false] rfl rfl rfl rfl (two_of HT_.out (by kernel_rfl)) (by decide) (by decide) (fun K hK => ?_) (fun K hK => ?_)
    · skip
      refine Kd.R_make_step Kd.string _ 9 (by rfl) (N := 16) rfl 40 _ _ rfl ji3 rfl rfl Tryd.underlying40 (.string ⟨#[]⟩) 16 info9 rfl (by decide) (by omega) (⟨#[]⟩ : ByteArray) (ok := fun _ => True) (okp := fun _ => True) rfl (fun _ hk => hk) trivial (of_decide_eq_true (by first | (with_reducible assumption) | assumption)) (Nat.le_trans (Nat.mul_le_mul_right _ (of_decide_eq_true (by first | (with_reducible assumption) | assumption) : ji3.toNat ≤ 17592186044416)) (by omega)) (Below.refl _ _) (Nat.le_refl _) ?_
      intro v150 w12 ho13 hb hg_ hnew_
      clear hg_ hnew_
      (first | rw [← Ny149.out] at ho13 | (simp only [Int.reduceToNat] at ho13; rw [← Ny149.out] at ho13))
      have n0_ := Aside0.mk (Kd.R_lower ho13 (below_size (by repeat (first | (with_reducible first | exact HB.out | apply below_alloc | apply pw_below_drewN | apply below_drew1 | refine below_set ?_ GE148.out) | exact HB.out))))
      have n1_ := Aside0.mk (blk_below (g := gb148) (o := .cells #[.int .i64 a0_0, .int .i64 a0_1, .int .i64 a0_2] 23 (0, 0)) (by (with_reducible repeat (first | refine blk_drewN ?_ _ | refine blk_drew ?_ | refine blk_alloc ?_ _)); exact BK148.out) hb)
      have n2_ := Aside0.mk (below_step (by repeat (first | (with_reducible first | exact HB.out | apply below_alloc | apply pw_below_drewN | apply below_drew1 | refine below_set ?_ GE148.out) | exact HB.out)) hb)
      clear BK148
      clear HB
      have HO151 := n0_
      have BK148 := n1_
      have HB := n2_
      clear n0_ n1_ n2_
      clear hb ho13
      refine hK.out _ _ ⟨(blk_cell BK148.out 0).trans rfl, (blk_cell BK148.out 1).trans rfl, (blk_cell BK148.out 2).trans rfl⟩ (fun hHeld => ?_)
      clear hK K
      refine norm_ (a' := ?_) ?_ ?_
      rotate_left
      · show Act.put _ (some 16) _ = _
        simp only [Act.put, List.setIfInBounds_toArray, List.set_cons_zero, List.set_cons_succ, i64_w, i32_w]
        rfl
      refine pure_ (i := 8) (N := some 6) (v := ?_) (a' := ?_) #[true, true, true, true, true, true, true, false, true, false] rfl rfl (any_of HT_.out (by kernel_rfl)) (fun _ _ _ h => h) (Or.inl ⟨by rfl, ?_⟩) ?_ ?_
      rotate_left
      · intro w'
        go_simp
        with_reducible rfl
      rotate_left
      · simp only [Act.put, List.setIfInBounds_toArray, List.set_cons_zero, List.set_cons_succ, i64_w, i32_w]
        rfl
      refine one_ (i := 7) (N := some 20) #[true, true, true, true, true, true, true, true, true, false] rfl rfl (one_of HT_.out (by kernel_rfl)) (by decide) (fun K hK => ?_)
      refine Kd.R_make_step Kd.bool _ 4 (by rfl) (N := 20) rfl 84 _ _ rfl ji3 rfl rfl Tryd.underlying84 (.bool false) 1 info4 rfl (by decide) (by omega) false (ok := fun _ => True) (okp := fun _ => True) rfl (fun _ hk => hk) trivial (of_decide_eq_true (by first | (with_reducible assumption) | assumption)) (Nat.le_trans (Nat.mul_le_mul_right _ (of_decide_eq_true (by first | (with_reducible assumption) | assumption) : ji3.toNat ≤ 281474976710656)) (by omega)) (Below.refl _ _) (Nat.le_refl _) ?_
      intro v153 w14 ho15 hb hg_ hnew_
      clear hg_ hnew_
      (first | rw [← Ny152.out] at ho15 | (simp only [Int.reduceToNat] at ho15; rw [← Ny152.out] at ho15))
      have n0_ := Aside0.mk (Kd.R_below (by (with_reducible repeat (first | apply Kd.R_alloc | apply Kd.R_drewN | apply Kd.R_drew)); exact HO151.out) hb)
      have n1_ := Aside0.mk (Kd.R_lower ho15 (below_size (by repeat (first | (with_reducible first | exact HB.out | apply below_alloc | apply pw_below_drewN | apply below_drew1 | refine below_set ?_ GE148.out) | exact HB.out))))
      have n2_ := Aside0.mk (blk_below (g := gb148) (o := .cells #[.int .i64 a0_0, .int .i64 a0_1, .int .i64 a0_2] 23 (0, 0)) (by (with_reducible repeat (first | refine blk_drewN ?_ _ | refine blk_drew ?_ | refine blk_alloc ?_ _)); exact BK148.out) hb)
      have n3_ := Aside0.mk (below_step (by repeat (first | (with_reducible first | exact HB.out | apply below_alloc | apply pw_below_drewN | apply below_drew1 | refine below_set ?_ GE148.out) | exact HB.out)) hb)
      clear HO151
      clear BK148
      clear HB
      have HO151 := n0_
      have HO154 := n1_
      have BK148 := n2_
      have HB := n3_
      clear n0_ n1_ n2_ n3_
      clear hb ho15
      refine hK.out _ _ ⟨(blk_cell BK148.out 0).trans rfl, (blk_cell BK148.out 1).trans rfl, (blk_cell BK148.out 2).trans rfl⟩ (fun hHeld => ?_)
      clear hK K
      refine norm_ (a' := ?_) ?_ ?_
      rotate_left
      · show Act.put _ (some 20) _ = _
        simp only [Act.put, List.setIfInBounds_toArray, List.set_cons_zero, List.set_cons_succ, i64_w, i32_w]
        rfl
      exact norm_ (by simp only [putAll, Act.put, List.setIfInBounds_toArray, List.set_cons_zero, List.set_cons_succ]) (hCont (v150, v153) _ ⟨hHeld, (by (with_reducible repeat (first | apply Kd.R_alloc | apply Kd.R_drewN | apply Kd.R_drew)); exact HO151.out), (by (with_reducible repeat (first | apply Kd.R_alloc | apply Kd.R_drewN | apply Kd.R_drew)); exact HO154.out), (by (with_reducible repeat (first | refine blk_drewN ?_ _ | refine blk_drew ?_ | refine blk_alloc ?_ _)); exact BK148.out), (by repeat (first | (with_reducible first | exact HB.out | apply below_alloc | apply pw_below_drewN | apply below_drew1 | refine below_set ?_ GE148.out) | exact HB.out))⟩)
    · skip
      refine Kd.R_make_step Kd.bool _ 4 (by rfl) (N := 20) rfl 84 _ _ rfl ji3 rfl rfl Tryd.underlying84 (.bool false) 1 info4 rfl (by decide) (by omega) false (ok := fun _ => True) (okp := fun _ => True) rfl (fun _ hk => hk) trivial (of_decide_eq_true (by first | (with_reducible assumption) | assumption)) (Nat.le_trans (Nat.mul_le_mul_right _ (of_decide_eq_true (by first | (with_reducible assumption) | assumption) : ji3.toNat ≤ 281474976710656)) (by omega)) (Below.refl _ _) (Nat.le_refl _) ?_
      intro v153 w12 ho13 hb hg_ hnew_
      clear hg_ hnew_
      (first | rw [← Ny152.out] at ho13 | (simp only [Int.reduceToNat] at ho13; rw [← Ny152.out] at ho13))
      have n0_ := Aside0.mk (Kd.R_lower ho13 (below_size (by repeat (first | (with_reducible first | exact HB.out | apply below_alloc | apply pw_below_drewN | apply below_drew1 | refine below_set ?_ GE148.out) | exact HB.out))))
      have n1_ := Aside0.mk (blk_below (g := gb148) (o := .cells #[.int .i64 a0_0, .int .i64 a0_1, .int .i64 a0_2] 23 (0, 0)) (by (with_reducible repeat (first | refine blk_drewN ?_ _ | refine blk_drew ?_ | refine blk_alloc ?_ _)); exact BK148.out) hb)
      have n2_ := Aside0.mk (below_step (by repeat (first | (with_reducible first | exact HB.out | apply below_alloc | apply pw_below_drewN | apply below_drew1 | refine below_set ?_ GE148.out) | exact HB.out)) hb)
      clear BK148
      clear HB
      have HO154 := n0_
      have BK148 := n1_
      have HB := n2_
      clear n0_ n1_ n2_
      clear hb ho13
      refine hK.out _ _ ⟨(blk_cell BK148.out 0).trans rfl, (blk_cell BK148.out 1).trans rfl, (blk_cell BK148.out 2).trans rfl⟩ (fun hHeld => ?_)
      clear hK K
      refine norm_ (a' := ?_) ?_ ?_
      rotate_left
      · show Act.put _ (some 20) _ = _
        simp only [Act.put, List.setIfInBounds_toArray, List.set_cons_zero, List.set_cons_succ, i64_w, i32_w]
        rfl
      refine one_ (i := 3) (N := some 16) #[true, true, true, true, true, true, true, true, false, false] rfl rfl (one_of HT_.out (by kernel_rfl)) (by decide) (fun K hK => ?_)
      refine Kd.R_make_step Kd.string _ 9 (by rfl) (N := 16) rfl 40 _ _ rfl ji3 rfl rfl Tryd.underlying40 (.string ⟨#[]⟩) 16 info9 rfl (by decide) (by omega) (⟨#[]⟩ : ByteArray) (ok := fun _ => True) (okp := fun _ => True) rfl (fun _ hk => hk) trivial (of_decide_eq_true (by first | (with_reducible assumption) | assumption)) (Nat.le_trans (Nat.mul_le_mul_right _ (of_decide_eq_true (by first | (with_reducible assumption) | assumption) : ji3.toNat ≤ 17592186044416)) (by omega)) (Below.refl _ _) (Nat.le_refl _) ?_
      intro v150 w14 ho15 hb hg_ hnew_
      clear hg_ hnew_
      (first | rw [← Ny149.out] at ho15 | (simp only [Int.reduceToNat] at ho15; rw [← Ny149.out] at ho15))
      have n0_ := Aside0.mk (Kd.R_below (by (with_reducible repeat (first | apply Kd.R_alloc | apply Kd.R_drewN | apply Kd.R_drew)); exact HO154.out) hb)
      have n1_ := Aside0.mk (Kd.R_lower ho15 (below_size (by repeat (first | (with_reducible first | exact HB.out | apply below_alloc | apply pw_below_drewN | apply below_drew1 | refine below_set ?_ GE148.out) | exact HB.out))))
      have n2_ := Aside0.mk (blk_below (g := gb148) (o := .cells #[.int .i64 a0_0, .int .i64 a0_1, .int .i64 a0_2] 23 (0, 0)) (by (with_reducible repeat (first | refine blk_drewN ?_ _ | refine blk_drew ?_ | refine blk_alloc ?_ _)); exact BK148.out) hb)
      have n3_ := Aside0.mk (below_step (by repeat (first | (with_reducible first | exact HB.out | apply below_alloc | apply pw_below_drewN | apply below_drew1 | refine below_set ?_ GE148.out) | exact HB.out)) hb)
      clear HO154
      clear BK148
      clear HB
      have HO154 := n0_
      have HO151 := n1_
      have BK148 := n2_
      have HB := n3_
      clear n0_ n1_ n2_ n3_
      clear hb ho15
      refine hK.out _ _ ⟨(blk_cell BK148.out 0).trans rfl, (blk_cell BK148.out 1).trans rfl, (blk_cell BK148.out 2).trans rfl⟩ (fun hHeld => ?_)
      clear hK K
      refine norm_ (a' := ?_) ?_ ?_
      rotate_left
      · show Act.put _ (some 16) _ = _
        simp only [Act.put, List.setIfInBounds_toArray, List.set_cons_zero, List.set_cons_succ, i64_w, i32_w]
        rfl
      refine pure_ (i := 8) (N := some 6) (v := ?_) (a' := ?_) #[true, true, true, true, true, true, true, true, true, false] rfl rfl (any_of HT_.out (by kernel_rfl)) (fun _ _ _ h => h) (Or.inl ⟨by rfl, ?_⟩) ?_ ?_
      rotate_left
      · intro w'
        go_simp
        with_reducible rfl
      rotate_left
      · simp only [Act.put, List.setIfInBounds_toArray, List.set_cons_zero, List.set_cons_succ, i64_w, i32_w]
        rfl
      exact norm_ (by simp only [putAll, Act.put, List.setIfInBounds_toArray, List.set_cons_zero, List.set_cons_succ]) (hCont (v150, v153) _ ⟨hHeld, (by (with_reducible repeat (first | apply Kd.R_alloc | apply Kd.R_drewN | apply Kd.R_drew)); exact HO151.out), (by (with_reducible repeat (first | apply Kd.R_alloc | apply Kd.R_drewN | apply Kd.R_drew)); exact HO154.out), (by (with_reducible repeat (first | refine blk_drewN ?_ _ | refine blk_drew ?_ | refine blk_alloc ?_ _)); exact BK148.out), (by repeat (first | (with_reducible first | exact HB.out | apply below_alloc | apply pw_below_drewN | apply below_drew1 | refine below_set ?_ GE148.out) | exact HB.out))⟩)
  rintro ⟨v150, v153⟩ w16 ⟨hS_, h0_, h1_, h2_, h3_⟩
  have n0_ : Aside0 (Kd.R Kd.string 9 w16 w.heap.size (fun _ => True) v150 y149) := ⟨h0_⟩
  have n1_ : Aside0 (Kd.R Kd.bool 4 w16 w.heap.size (fun _ => True) v153 y152) := ⟨h1_⟩
  have n2_ : Aside0 (w16.heap[gb148]? = some (.cells #[.int .i64 a0_0, .int .i64 a0_1, .int .i64 a0_2] 23 (0, 0))) := ⟨h2_⟩
  have n3_ : Aside0 (Below w.heap.size w w16) := ⟨h3_⟩
  clear BK148
  clear HB
  clear h0_ h1_ h2_ h3_
  have HO151 := n0_
  have HO154 := n1_
  have BK148 := n2_
  have HB := n3_
  clear n0_ n1_ n2_ n3_
  have hHeld : w16.cell? ⟨gb148, 0, none⟩ = some (.int .i64 a0_0) ∧ w16.cell? ⟨gb148, 1, none⟩ = some (.int .i64 a0_1) ∧ w16.cell? ⟨gb148, 2, none⟩ = some (.int .i64 a0_2) := hS_
  refine norm_ (a' := ?_) ?_ ?_
  rotate_left
  · simp only [putAll, Act.put, List.setIfInBounds_toArray, List.set_cons_zero, List.set_cons_succ]
    rfl
  refine pure_ (i := 9) (N := some 7) (v := ?_) (a' := ?_) #[true, true, true, true, true, true, true, true, true, true] rfl rfl (any_of HT_.out (by kernel_rfl)) (fun _ _ _ h => h) (Or.inl ⟨by rfl, ?_⟩) ?_ ?_
  rotate_left
  · intro w'
    go_simp
    with_reducible rfl
  rotate_left
  · simp only [Act.put, List.setIfInBounds_toArray, List.set_cons_zero, List.set_cons_succ, i64_w, i32_w]
    rfl
  refine done_ (done_of HT_.out (by kernel_rfl)) ?_
  have p9 : 0 ≤ (a1 : Int) := of_decide_eq_true (by first | (with_reducible assumption) | assumption)
  have q9 : (a1 : Int) < ((y152.length : Int) : Int) := of_decide_eq_true (by first | (with_reducible assumption) | assumption)
  obtain ⟨go9, co9, eo9, gb9, gl9, cl9, HG9⟩ := Kd.R_form HO154.out (by omega)
  (first | cases eo9 | (injection eo9 with ea_ en_ ec_; (first | subst ea_ | (injection ea_ with ea_; subst ea_)); subst ec_; clear en_))
  have GB9 := Aside0.mk gb9
  have GG9 := Aside0.mk HG9
  clear gb9 gl9 HG9
  obtain ⟨hx9_0, hf9_0⟩ := Kd.R_celln false HO154.out (a1 : Int) p9 q9
  replace p9 := eq_true p9
  replace q9 := eq_true q9
  obtain ⟨hy17_, hz17_⟩ := Kd.R_celln false HO154.out (a1 : Int) (of_decide_eq_true (by first | (with_reducible assumption) | assumption)) (of_decide_eq_true (by first | (with_reducible assumption) | assumption))
  have HP17 := Kd.R_putg HO154.out (a1 : Int) true
  try go_wp2_with (first | ((with_reducible refine gate_store (t := 4) (p := 23) rfl ?_); refine store_event (t := 4) (p := 23) (v := ?vo_w18) (w1 := (w16.setCell ⟨go9, (a1 : Int).toNat, none⟩ (.bool true))) ?hg ?ho ?hn ?hr ?_; (case ho => rfl); (case hg => rfl); (case hn => rfl); (case hr => first | (go_simp; done) | (go_simp; rfl)); intro w18 hw; have hg : w16.grownBy w18 (some go9) := (by rw [hw]; exact HP17.2); have hp_ : Kd.R Kd.bool 4 w18 w.heap.size (fun _ => True) (.slice (some ⟨go9, 0, none⟩) y152.length co9) y155 := (by rw [hw, Ny155.out]; exact HP17.1); clear HP17; have n0_ := Aside0.mk (blk_grown (g := gb148) (o := .cells #[.int .i64 a0_0, .int .i64 a0_1, .int .i64 a0_2] 23 (0, 0)) (by (with_reducible repeat (first | refine blk_drewN ?_ _ | refine blk_drew ?_ | refine blk_alloc ?_ _)); exact BK148.out) hg (Kd.R_ne HO154.out BK148.out (by decide))); have n1_ := Aside0.mk (Kd.R_over' (v := (.slice (some ⟨go9, 0, none⟩) y152.length co9)) (by (with_reducible repeat (first | apply Kd.R_alloc | apply Kd.R_drewN | apply Kd.R_drew)); exact HO151.out) (Kd.R_typed HO154.out) (by decide) hg); have n2_ := Aside0.mk (hp_); have n3_ := Aside0.mk ((by rw [hw]; exact below_set (HB.out) GB9.out : Below w.heap.size w w18)); clear BK148; clear HO151; clear HO154; clear HB; have BK148 := n0_; have HO151 := n1_; have HO154 := n2_; have HB := n3_; clear n0_ n1_ n2_ n3_; clear hg hw hp_) | ((with_reducible refine gate_dst (N := 25) rfl ?_); refine Kd.R_lit (Kd.int .i64) _ 3 ?hg (N := 25) ?hd (xs := ([a1] : List Int)) (inner := [.int .i64 a1]) (ok := fun _ => True) (okp := fun _ => True) ?hr ?hp (fun _ hk => hk) trivial (Below.refl _ _) (Nat.le_refl _) (by simp) ?_; (case hd => rfl); (case hg => rfl); (case hr => first | (go_simp; done) | (go_simp; rfl)); (case hp => exact (Reps.one (show Kd.M (Kd.int .i64) _ _ _ a1 [.int .i64 a1] from rfl) (Reps.none _ _))); intro v157 w19 ho20 hb hg_ hnew_; clear hg_ hnew_; (first | rw [← Ny156.out] at ho20 | (simp only [Int.reduceToNat] at ho20; rw [← Ny156.out] at ho20)); have n0_ := Aside0.mk (Kd.R_below (by (with_reducible repeat (first | apply Kd.R_alloc | apply Kd.R_drewN | apply Kd.R_drew)); exact HO151.out) hb); have n1_ := Aside0.mk (Kd.R_below (by (with_reducible repeat (first | apply Kd.R_alloc | apply Kd.R_drewN | apply Kd.R_drew)); exact HO154.out) hb); have n2_ := Aside0.mk (Kd.R_lower ho20 (below_size (by repeat (first | (with_reducible first | exact HB.out | apply below_alloc | apply pw_below_drewN | apply below_drew1 | refine below_set ?_ GE148.out) | exact HB.out)))); have n3_ := Aside0.mk (blk_below (g := gb148) (o := .cells #[.int .i64 a0_0, .int .i64 a0_1, .int .i64 a0_2] 23 (0, 0)) (by (with_reducible repeat (first | refine blk_drewN ?_ _ | refine blk_drew ?_ | refine blk_alloc ?_ _)); exact BK148.out) hb); have n4_ := Aside0.mk (below_step (by repeat (first | (with_reducible first | exact HB.out | apply below_alloc | apply pw_below_drewN | apply below_drew1 | refine below_set ?_ GE148.out) | exact HB.out)) hb); clear HO151; clear HO154; clear BK148; clear HB; have HO151 := n0_; have HO154 := n1_; have HO158 := n2_; have BK148 := n3_; have HB := n4_; clear n0_ n1_ n2_ n3_ n4_; clear hb ho20))
  have hji := Hji.out
  obtain ⟨m, hm⟩ : ∃ m, m = ji3.toNat := ⟨_, rfl⟩
  have hm1 : y149.length = m := by rw [Ny149.out, List.length_replicate, hm]
  have hm2 : y152.length = m := by rw [Ny152.out, List.length_replicate, hm]
  have hmn : (m : Int) = 2 * a0_0 := by omega
  rw [hm2] at HO154
  obtain ⟨gw, cw, ew, _, _, _⟩ := Kd.R_form HO151.out (by omega)
  rw [hm1] at ew
  subst ew
  rw [hm2]
  have HW := Aside0.mk (show Kd.R Kd.string 9 w19 w.heap.size (fun _ => True) (.slice (some ⟨gw, 0, none⟩) m cw) (wayL m [(a1, [])]) by rw [← wayL_start, hm, ← Ny149.out]; rw [← hm]; exact HO151.out)
  have HM := Aside0.mk (show Kd.R Kd.bool 4 w19 w.heap.size (fun _ => True) (.slice (some ⟨go9, 0, none⟩) m co9) (metL m [(a1, [])]) by rw [← metL_start m a1 c7, hm, ← Ny152.out, ← Ny155.out, ← hm]; exact HO154.out)
  have HQ := Aside0.mk (show Kd.R (Kd.int .i64) 3 w19 w.heap.size (fun _ => True) v157 (([(a1, [])] : Bfs.Met Int).map (·.1)) by have h1 := HO158.out; rw [Ny156.out] at h1; exact h1)
  have kc := fun (w : World) (C : Array Value) (n c : Nat) => Lib.run_convert_bytes_const (P := Tryd.prog) w 95 5 C n c Tryd.underlying95 Tryd.underlying5
  rw [← hm] at HR1 HR2
  clear HO151 HO154 HO158 hm hm1 hm2 hji Hji Hlen Ny149 Ny152 Ny155 Ny156 hji3 hji3w c4b0 c4b1 c5b0 c5b1 c6b0 c6b1 c8b0
  go_loopg [8, 9] 65 (fun gk v8 v9 wr => ∃ (i : Nat) (L : Bfs.Met Int), gk + i = 65 ∧ v9 = .int .i64 (i : Int) ∧ i ≤ L.length ∧ Aside0 (Bfs.go (stepU a0_0 a0_1 a0_2) [76, 80, 82] gk i L = R) ∧ Aside0 (Bfs.Good a0_0 L) ∧ Aside0 (Kd.R Kd.string 9 wr w.heap.size (fun _ => True) (.slice (some ⟨gw, 0, none⟩) m cw) (wayL m L)) ∧ Aside0 (Kd.R Kd.bool 4 wr w.heap.size (fun _ => True) (.slice (some ⟨go9, 0, none⟩) m co9) (metL m L)) ∧ Aside0 (Kd.R (Kd.int .i64) 3 wr w.heap.size (fun _ => True) v8 (L.map (·.1))) ∧ Aside0 (wr.heap[gb148]? = some (.cells #[.int .i64 a0_0, .int .i64 a0_1, .int .i64 a0_2] 23 (0, 0))) ∧ Aside0 (Below w.heap.size w wr))
  case atStart => exact ⟨0, [(a1, [])], rfl, rfl, by simp, HR, HGood, HW, HM, HQ, BK148, HB⟩
  case round =>
    obtain ⟨i, L, hgi, rfl, hiL, hgo, hgood, hW, hM, hQ, hbx, hbel⟩ := hrel
    clear HR HGood HW HM HQ BK148 HB
    have hLn : L.length ≤ 32 := by rcases hgood.out.length with h | h <;> omega
    obtain ⟨A, cc, hv, hlc, _⟩ := Kd.R_reads hQ.out
    obtain ⟨mq, hmq⟩ : ∃ mq, mq = (L.map (·.1)).length := ⟨_, rfl⟩
    rw [← hmq] at hv hlc
    have hmi : mq = L.length := by rw [hmq]; simp
    have HMq := Aside0.mk hmq
    clear hmq
    subst hv
    by_cases hlt : i < L.length
    · have hd : decide (i < mq) = true := decide_eq_true (by omega)
      clear hmi
      go_wp2_with fail
      obtain ⟨wo, rfl⟩ : ∃ wo : World, wo = wr := ⟨_, rfl⟩
      obtain ⟨gq, rfl⟩ : ∃ gq : Nat, gq = gk := ⟨_, rfl⟩
      obtain ⟨p, hp⟩ : ∃ p, p = L[i] := ⟨_, rfl⟩
      have hgo2 := hgo.out
      rw [go_more _ _ _ _ _ hlt (by omega), ← hp] at hgo2
      have HGo := Aside0.mk hgo2
      have HP := Aside0.mk hp
      have hLit : (wo.alloc (.cells #[.int .u8 76, .int .u8 80, .int .u8 82] 5 (3, 4))).heap[wo.heap.size]? = some (.cells #[.int .u8 76, .int .u8 80, .int .u8 82] 5 (3, 4)) := World.alloc_heap_new wo _
      have hBa : Below wo.heap.size wo (wo.alloc (.cells #[.int .u8 76, .int .u8 80, .int .u8 82] 5 (3, 4))) := (Below.refl _ wo).alloc (Nat.le_refl _) _
      have HLit := Aside0.mk hLit
      have HW := Aside0.mk (Kd.R_below hW.out hBa)
      have HM := Aside0.mk (Kd.R_below hM.out hBa)
      have HQ := Aside0.mk (Kd.R_below hQ.out hBa)
      have HBx := Aside0.mk ((hBa.block _ (blk_lt hbx.out)).trans hbx.out)
      have HBel := Aside0.mk (hbel.out.trans (hBa.mono hbel.out.size))
      clear hLit hBa hgo hgo2 hp hW hM hQ hbx hbel
      go_loopg [8, 35] 3 (fun gk v q wr => ∃ (j : Nat), gk + j = 3 ∧ q = .int .i64 (j : Int) ∧ Aside0 (Bfs.Good a0_0 (Bfs.visit (stepU a0_0 a0_1 a0_2) p (([76, 80, 82] : List UInt8).take j) L)) ∧ Aside0 (Kd.R Kd.string 9 wr w.heap.size (fun _ => True) (.slice (some ⟨gw, 0, none⟩) m cw) (wayL m (Bfs.visit (stepU a0_0 a0_1 a0_2) p (([76, 80, 82] : List UInt8).take j) L))) ∧ Aside0 (Kd.R Kd.bool 4 wr w.heap.size (fun _ => True) (.slice (some ⟨go9, 0, none⟩) m co9) (metL m (Bfs.visit (stepU a0_0 a0_1 a0_2) p (([76, 80, 82] : List UInt8).take j) L))) ∧ Aside0 (Kd.R (Kd.int .i64) 3 wr w.heap.size (fun _ => True) v ((Bfs.visit (stepU a0_0 a0_1 a0_2) p (([76, 80, 82] : List UInt8).take j) L).map (·.1))) ∧ Aside0 (wr.heap[gb148]? = some (.cells #[.int .i64 a0_0, .int .i64 a0_1, .int .i64 a0_2] 23 (0, 0))) ∧ Aside0 (wr.heap[wo.heap.size]? = some (.cells #[.int .u8 76, .int .u8 80, .int .u8 82] 5 (3, 4))) ∧ Aside0 (Below w.heap.size w wr))
      case atStart => exact ⟨0, rfl, rfl, hgood, HW, HM, HQ, HBx, HLit, HBel⟩
      case round =>
        obtain ⟨j, hgj, rfl, hgood2, hW, hM, hQ, hbx, hlit, hbel⟩ := hrel
        clear HW HM HQ HBx HLit HBel
        obtain ⟨M, hMd⟩ : ∃ M, M = Bfs.visit (stepU a0_0 a0_1 a0_2) p (([76, 80, 82] : List UInt8).take j) L := ⟨_, rfl⟩
        rw [← hMd] at hgood2 hW hM hQ
        have HMp := Aside0.mk (show L <+: M from hMd ▸ Bfs.visit_prefix _ p _ L)
        have HMd := Aside0.mk hMd
        clear hMd
        have hML : L.length ≤ M.length := HMp.out.length_le
        have hMn : M.length ≤ 32 := by rcases hgood2.out.length with h | h <;> omega
        have hpM : M[i]? = some p := by
          obtain ⟨Z, hZ⟩ := HMp.out
          rw [← hZ, List.getElem?_append_left hlt, List.getElem?_eq_getElem hlt, HP.out]
        have HPM := Aside0.mk hpM
        clear hpM
        by_cases hj : j < 3
        · have dj : decide ((j : Int) < 3) = true := decide_eq_true (by omega)
          have hpr := hgood2.out.range p (List.mem_of_getElem? HPM.out)
          obtain ⟨c, hc⟩ : ∃ c : UInt8, c = ([76, 80, 82] : List UInt8).getD j 0 := ⟨_, rfl⟩
          have hj3 : j = 0 ∨ j = 1 ∨ j = 2 := by omega
          have hcb : wr.cell? ⟨wo.heap.size, j, none⟩ = some (.int .u8 (c.toNat : Int)) := by
            rcases hj3 with h | h | h <;> (subst h; rw [hc, cell_of_row wr wo.heap.size _ _ 5 (3, 4) hlit.out]; rfl)
          have hca : c.toNat < 128 := by rcases hj3 with h | h | h <;> (subst h; rw [hc]; decide)
          have HC2 := Aside0.mk hc
          clear hc hj3
          have hl0 : (0 : Int) ≤ (j : Int) := by omega
          have hl1 : (j : Int) < (3 : Int) := by omega
          have hnat : (j : Int).toNat = j := by omega
          obtain ⟨q, hqd⟩ : ∃ q, q = stepU a0_0 a0_1 a0_2 p.1 c := ⟨_, rfl⟩
          have hqr : 0 ≤ q ∧ q < 2 * a0_0 := by rw [hqd]; exact step_range HK.out _ _
          have HSt := Aside0.mk (show sackbutref04_Step.f a0_0 a0_1 a0_2 p.1 (c.toNat : Int) = some q by rw [hqd]; exact rStep_f HK.out _ _ hpr.1 hpr.2)
          have HQd := Aside0.mk hqd
          clear hqd
          obtain ⟨gu, cu, hv8, _, _, _⟩ := Kd.R_form hQ.out (by simp; omega)
          obtain ⟨mu, hmu⟩ : ∃ mu, mu = (M.map (·.1)).length := ⟨_, rfl⟩
          rw [← hmu] at hv8
          have hmui : mu = M.length := by rw [hmu]; simp
          have HMu := Aside0.mk hmu
          clear hmu
          subst hv8
          have hi0 : (0 : Int) ≤ (i : Int) := by omega
          have hi1 : (i : Int) < (mu : Int) := by omega
          have hi2 : i < mu := by omega
          have hi3 : (i : Int).toNat = i := by omega
          have hb0 : wr.cell? ⟨gb148, 0, none⟩ = some (.int .i64 a0_0) := (blk_cell hbx.out 0).trans rfl
          have hb1 : wr.cell? ⟨gb148, 1, none⟩ = some (.int .i64 a0_1) := (blk_cell hbx.out 1).trans rfl
          have hb2 : wr.cell? ⟨gb148, 2, none⟩ = some (.int .i64 a0_2) := (blk_cell hbx.out 2).trans rfl
          have hrdp : rdOf (0 : Int) (M.map (·.1)) (i : Int) = p.1 := by
            show (M.map (·.1)).getD (i : Int).toNat 0 = _
            rw [hi3, List.getD_eq_getElem?_getD, List.getElem?_map, HPM.out]
            rfl
          have hp0 : wr.cell? ⟨gu, i, none⟩ = some (.int .i64 p.1) := by
            have h1 := (Kd.R_celln (d := (0 : Int)) hQ.out (i : Int) hi0 hi1).1
            rw [hrdp, hi3] at h1
            exact h1
          have HRdp := Aside0.mk hrdp
          clear hmui hrdp
          go_wp2_with fail
          go_region_held3 (fun W => W.cell? ⟨gb148, 0, none⟩ = some (.int .i64 a0_0) ∧ W.cell? ⟨gb148, 1, none⟩ = some (.int .i64 a0_1) ∧ W.cell? ⟨gb148, 2, none⟩ = some (.int .i64 a0_2) ∧ W.cell? ⟨gu, i, none⟩ = some (.int .i64 p.1)) ((first | go_keep | exact ⟨(hb.cell (World.block_lt_of_cell? _ _ hb0)).trans hb0, (hb.cell (World.block_lt_of_cell? _ _ hb1)).trans hb1, (hb.cell (World.block_lt_of_cell? _ _ hb2)).trans hb2, (hb.cell (World.block_lt_of_cell? _ _ hp0)).trans hp0⟩))
            ((go_at_call 56; refine (sackbutref04_Step.calls a0_0 a0_1 a0_2 p.1 (c.toNat : Int) q _ HSt.out).mono ?_; rintro e w' ⟨rfl, hb⟩))
          replace hb : Below wr.heap.size wr w' := (below_drew (Below.refl _ wr)).trans hb
          have hp0' := (hb.cell (World.block_lt_of_cell? _ _ hp0)).trans hp0
          have HW := Aside0.mk (Kd.R_below hW.out hb)
          have HM := Aside0.mk (Kd.R_below hM.out hb)
          have HQ := Aside0.mk (Kd.R_below hQ.out hb)
          have HBx := Aside0.mk ((hb.block _ (blk_lt hbx.out)).trans hbx.out)
          have HLit := Aside0.mk ((hb.block _ (blk_lt hlit.out)).trans hlit.out)
          have HBel := Aside0.mk (hbel.out.trans (hb.mono hbel.out.size))
          have hq1 : q < (m : Int) := by omega
          have hmet := Kd.R_celln (d := false) HM.out q hqr.1 hq1
          rw [rd_met m M q hqr.1 hq1] at hmet
          have hmc := hmet.1
          have hmf := hmet.2
          have HPut := Aside0.mk (show Bfs.visit (stepU a0_0 a0_1 a0_2) p (([76, 80, 82] : List UInt8).take (j + 1)) L = Bfs.put (stepU a0_0 a0_1 a0_2) p M c by rw [Bfs.visit_take _ _ _ _ _ (by simp; omega), ← HMd.out, ← HC2.out])
          have HG2 := Aside0.mk (show Bfs.Good a0_0 (Bfs.put (stepU a0_0 a0_1 a0_2) p M c) from Bfs.Good.put hgood2.out (List.mem_of_getElem? HPM.out) c (by rw [← HQd.out]; exact hqr))
          have hq0 := hqr.1
          clear hb hb0 hb1 hb2 hp0 hcb hmet
          cases hkn : Bfs.known M q with
          | true =>
            rw [hkn] at hmc
            have HKn := Aside0.mk hkn
            clear hkn
            go_wp2_with fail
            have HV := Aside0.mk (show Bfs.visit (stepU a0_0 a0_1 a0_2) p (([76, 80, 82] : List UInt8).take (j + 1)) L = M by rw [HPut.out, Bfs.put, if_pos (by rw [← HQd.out]; exact HKn.out)])
            go_roundg (3 - j - 1)
            case measure => omega
            case rel => exact ⟨j + 1, by omega, rfl, ⟨by rw [HV.out]; exact hgood2.out⟩, ⟨by rw [HV.out]; exact HW.out⟩, ⟨by rw [HV.out]; exact HM.out⟩, ⟨by rw [HV.out]; exact HQ.out⟩, HBx, HLit, HBel⟩
          | false =>
            rw [hkn] at hmc
            have HKn := Aside0.mk hkn
            clear hkn
            have HV := Aside0.mk (show Bfs.visit (stepU a0_0 a0_1 a0_2) p (([76, 80, 82] : List UInt8).take (j + 1)) L = M ++ [(q, p.2 ++ [c])] by rw [HPut.out, Bfs.put, if_neg (by rw [← HQd.out, HKn.out]; decide), ← HQd.out])
            have hp1 : p.1 < (m : Int) := by omega
            have hp00 : 0 ≤ p.1 := hpr.1
            have hps := hgood2.out.short p (List.mem_of_getElem? HPM.out)
            have hsum : ¬ 9223372036854775807 < p.2.length + 1 := by omega
            have kc2 : ∀ W : World, (convert 21 9 (.int .i32 (c.toNat : Int))).run Tryd.prog W = .ok (.string ⟨#[c]⟩) W := fun W => by rw [run_convert_int_string (P := Tryd.prog) W 21 9 .i32 (c.toNat : Int) rfl Tryd.underlying9, encode_ascii c hca]
            have hPutM := Kd.R_putg HM.out q true
            rw [← metL_snoc m M q (p.2 ++ [c]) hq0] at hPutM
            have HPutM := Aside0.mk hPutM
            have HMuL := Aside0.mk (show mu ≤ 32 by have := HMu.out; simp at this; omega)
            clear hPutM hps
            go_wp2_with (first
              | ((with_reducible refine gate_store (t := 4) (p := 53) rfl ?_); go_loud (refine store_event (t := 4) (p := 53) (v := ?vo_w1) (w1 := (w'.setCell ⟨go9, q.toNat, none⟩ (.bool true))) ?hg ?ho ?hn ?hr ?_; (case ho => rfl); (case hg => rfl); (case hn => rfl); (case hr => first | (go_simp; done) | (go_simp; rfl)); intro w2 hw2; have hg2 : w'.grownBy w2 (some go9) := (by rw [hw2]; exact HPutM.out.2); have HM2 := Aside0.mk (show Kd.R Kd.bool 4 w2 w.heap.size (fun _ => True) (.slice (some ⟨go9, 0, none⟩) m co9) (metL m (M ++ [(q, p.2 ++ [c])])) by rw [hw2]; exact HPutM.out.1); have HW2 := Aside0.mk (Kd.R_over' (v := (.slice (some ⟨go9, 0, none⟩) m co9)) HW.out (Kd.R_typed HM.out) (by decide) hg2); have HQ2 := Aside0.mk (Kd.R_over' (v := (.slice (some ⟨go9, 0, none⟩) m co9)) HQ.out (Kd.R_typed HM.out) (by decide) hg2); have HBx2 := Aside0.mk (blk_grown HBx.out hg2 (Kd.R_ne HM.out HBx.out (by decide))); have HLit2 := Aside0.mk (marked_grown HLit.out HM.out (by decide) hg2); have HBel2 := Aside0.mk (HBel.out.grown hg2 HBel.out.size (fun k e => Kd.R_base HM.out k e)); clear HPutM hg2 hw2 hmc hmf; have hz1 : w2.cell? ⟨gu, i, none⟩ = some (.int .i64 p.1) := (by have h1 := (Kd.R_celln (d := (0 : Int)) HQ2.out (i : Int) hi0 hi1).1; rw [HRdp.out, hi3] at h1; exact h1); have hz2 : w2.cell? ⟨gw, p.1.toNat, none⟩ = some (.string ⟨p.2.toArray⟩) := (by have h1 := (Kd.R_celln (d := ByteArray.empty) HW2.out p.1 hp00 hp1).1; rw [rd_way m M p.1 hp00 hp1, wordOf_mem hgood2.out.nodup (List.mem_of_getElem? HPM.out)] at h1; exact h1); have hz3 := (Kd.R_celln (d := ByteArray.empty) HW2.out q hq0 hq1).2; have hz4 := (Kd.R_celln (d := ByteArray.empty) HW2.out q hq0 hq1).1))
              | ((with_reducible refine gate_store (t := 9) (p := 67) rfl ?_); go_loud (refine store_event (t := 9) (p := 67) (v := ?vo_w3) (w1 := (w2.setCell ⟨gw, q.toNat, none⟩ (.string (⟨p.2.toArray⟩ ++ ⟨#[c]⟩)))) ?hg ?ho ?hn ?hr ?_; (case ho => rfl); (case hg => rfl); (case hn => rfl); (case hr => first | (go_simp; done) | (go_simp; rfl)); intro w3 hw3; have hPutW := (Kd.R_putg HW2.out q (⟨p.2.toArray⟩ ++ ⟨#[c]⟩)); have hg3 : w2.grownBy w3 (some gw) := (by rw [hw3]; exact hPutW.2); have HW3 := Aside0.mk (show Kd.R Kd.string 9 w3 w.heap.size (fun _ => True) (.slice (some ⟨gw, 0, none⟩) m cw) (wayL m (M ++ [(q, p.2 ++ [c])])) by rw [hw3, wayL_snoc m M q (p.2 ++ [c]) HKn.out hq0, ← bytes_snoc]; exact hPutW.1); have HM3 := Aside0.mk (Kd.R_over' (v := (.slice (some ⟨gw, 0, none⟩) m cw)) HM2.out (Kd.R_typed HW2.out) (by decide) hg3); have HQ3 := Aside0.mk (Kd.R_over' (v := (.slice (some ⟨gw, 0, none⟩) m cw)) HQ2.out (Kd.R_typed HW2.out) (by decide) hg3); have HBx3 := Aside0.mk (blk_grown HBx2.out hg3 (Kd.R_ne HW2.out HBx2.out (by decide))); have HLit3 := Aside0.mk (marked_grown HLit2.out HW2.out (by decide) hg3); have HBel3 := Aside0.mk (HBel2.out.grown hg3 HBel2.out.size (fun k e => Kd.R_base HW2.out k e)); clear hPutW hg3 hw3 hz1 hz2 hz3 hz4))
              | (at_builtin; go_loud (refine Kd.R_append (Kd.int .i64) (w0 := w) w.heap.size rfl (.tmp 68) (.tmp 70) 54 3 (.int .i64 0) 8 rfl Tryd.underlying54 info3 rfl (by decide) (by omega) (.slice (some ⟨gu, 0, none⟩) mu cu) (M.map (·.1)) q [.int .i64 q] (fun _ => True) (fun _ => False) rfl rfl rfl (fun _ hk => hk.elim) (fun _ _ => trivial) HQ3.out HBel3.out HBel3.out.size (by rw [← HMu.out]; have := HMuL.out; omega) ?_; intro v4 w4 hq4 hb4 hg4 hat4)))
            have HQ4 := Aside0.mk hq4
            have HB4 := Aside0.mk hb4
            have HW4 := Aside0.mk (Kd.R_over' (v := (.slice (some ⟨gu, 0, none⟩) mu cu)) HW3.out (Kd.R_typed HQ3.out) (by decide) hg4)
            have HM4 := Aside0.mk (Kd.R_over' (v := (.slice (some ⟨gu, 0, none⟩) mu cu)) HM3.out (Kd.R_typed HQ3.out) (by decide) hg4)
            have HBx4 := Aside0.mk (blk_grown HBx3.out hg4 (Kd.R_ne HQ3.out HBx3.out (by decide)))
            have HLit4 := Aside0.mk (marked_grown HLit3.out HQ3.out (by decide) hg4)
            go_roundg (3 - j - 1)
            case measure => omega
            case rel => exact ⟨j + 1, by omega, rfl, ⟨by rw [HPut.out]; exact HG2.out⟩, ⟨by rw [HV.out]; exact HW4.out⟩, ⟨by rw [HV.out]; exact HM4.out⟩, ⟨by rw [HV.out, List.map_append]; exact HQ4.out⟩, HBx4, HLit4, HB4⟩
        · have hj0 : j = 3 := by omega
          have dj : decide ((j : Int) < 3) = false := decide_eq_false (by omega)
          have hMe : M = Bfs.visit (stepU a0_0 a0_1 a0_2) p [76, 80, 82] L := by rw [HMd.out, hj0]; rfl
          have HG3 := Aside0.mk (show Bfs.go (stepU a0_0 a0_1 a0_2) [76, 80, 82] (64 - i) (i + 1) M = R by rw [hMe, show 64 - i = gq - 1 by omega]; exact HGo.out)
          clear hMe hj0
          go_wp2_with fail
          go_roundg (64 - i)
          case measure => omega
          case rel => exact ⟨i + 1, M, by omega, rfl, by omega, HG3, hgood2, hW, hM, hQ, hbx, hbel⟩
    · have hd : decide (i < mq) = false := decide_eq_false (by omega)
      clear hmi
      go_wp2_with fail
      have hgo2 := hgo.out
      rw [go_end _ _ _ _ _ (by omega)] at hgo2
      go_ret2
      exact ⟨_, _, rfl, by rw [← HR1.out, ← hgo2]; exact hW.out, by rw [← HR2.out, ← hgo2]; exact hM.out, hbel.out⟩
end
end Go.Proofs.YtpaeobpmkdekfaaDoor.P
