/- Texts that the proof of TriadsSizes needs, put together in build order by this session's program (wip/tools/claimtrim.py). -/
import Derived.Test.YtpaeobpmkdekfaaDoorTriadsSizesM9
section
namespace Go.Proofs.YtpaeobpmkdekfaaDoor.P
open Go.RowKit Go.Proofs.YtpaeobpmkdekfaaDoorW.PrintWords Go.Proofs.YtpaeobpmkdekfaaDoorW.PrintLast Go.Proofs.YtpaeobpmkdekfaaDoorW.PrintMore
attribute [local go_sem] max2_int min2_int max_two min_two max_three min_three max_four min_four   -- for this text's walks alone
set_option linter.unusedVariables false
set_option linter.unusedSimpArgs false
def triads_Kind_alike.f (a0_0 : Int) (a0_1 : Int) (a0_2 : Int) (a1 : ByteArray) (a2 : ByteArray) : Option (Bool) := (triads_Kind_walk.f a0_0 a0_1 a0_2 0 a1).bind fun t341 => ((triads_Kind_walk.f a0_0 a0_1 a0_2 0 a2).bind fun t342 => (if t341 = t342 then ((triads_Kind_walk.f a0_0 a0_1 a0_2 a0_0 a1).bind fun t343 => ((triads_Kind_walk.f a0_0 a0_1 a0_2 a0_0 a2).bind fun t344 => (some (t343 == t344)))) else (some false)))
def triads_Kind_alike.T1 : Bool × List (List Nat × List Nat) := (true, [([], []), ([], []), ([0, 1], [0, 1]), ([], []), ([], []), ([3, 4, 2], [3, 4]), ([2, 5], [2, 5]), ([6, 5], [6]), ([7], [7]), ([7], [7]), ([9, 7], [7, 9]), ([7], [7]), ([8, 10, 11, 7, 7], [7, 8, 10, 11]), ([7], [7]), ([7], [7]), ([14, 7], [7, 14]), ([7], [7]), ([13, 15, 16, 12, 7], [7, 13, 15, 16]), ([12, 17, 7], [7, 12, 17]), ([7, 18], [7, 18]), ([19, 17, 0, 1, 2, 3, 4, 5, 6, 7, 8, 9, 10, 11, 12, 13, 14, 15, 16, 17, 18, 19], [19])])
def triads_Kind_alike.B1 : List Nat := [0, 0, 3, 0, 0, 31, 63, 127, 255, 255, 767, 255, 4095, 255, 255, 16639, 255, 131071, 262143, 524287, 1048575]
theorem triads_Kind_alike.tab1 : rtab .any (opsOf Tryd.f66 1) = triads_Kind_alike.T1 := by kernel_rfl
theorem triads_Kind_alike.bits1 : waitsOk triads_Kind_alike.T1.2 triads_Kind_alike.B1 = true := by kernel_rfl
set_option maxHeartbeats 8000000 in
set_option maxRecDepth 100000 in
theorem triads_Kind_alike.calls (a0_0 : Int) (a0_1 : Int) (a0_2 : Int) (a1 : ByteArray) (a2 : ByteArray) (r : Bool) (w : World) (h : triads_Kind_alike.f a0_0 a0_1 a0_2 a1 a2 = some r) :
    Calls Tryd.prog 66 #[.agg #[.int .i64 a0_0, .int .i64 a0_1, .int .i64 a0_2], .string a1, .string a2] w fun e w' => e = .returned (.bool r) ∧ Below w.heap.size w w' := by
  have hu27 := Tryd.underlying27
  have HB := Aside0.mk (Below.refl w.heap.size w)
  have H : ((triads_Kind_walk.f a0_0 a0_1 a0_2 0 a1).bind fun t341 => ((triads_Kind_walk.f a0_0 a0_1 a0_2 0 a2).bind fun t342 => (if t341 = t342 then ((triads_Kind_walk.f a0_0 a0_1 a0_2 a0_0 a1).bind fun t343 => ((triads_Kind_walk.f a0_0 a0_1 a0_2 a0_0 a2).bind fun t344 => (some (t343 == t344)))) else (some false)))) = some r := h
  clear h
  replace H := Option.bind_eq_some_iff.mp H
  obtain ⟨t341, A40, H⟩ := H
  replace H : ((triads_Kind_walk.f a0_0 a0_1 a0_2 0 a2).bind fun t342 => (if t341 = t342 then ((triads_Kind_walk.f a0_0 a0_1 a0_2 a0_0 a1).bind fun t343 => ((triads_Kind_walk.f a0_0 a0_1 a0_2 a0_0 a2).bind fun t344 => (some (t343 == t344)))) else (some false))) = some r := H
  have A4 := Aside0.mk A40
  clear A40
  replace H := Option.bind_eq_some_iff.mp H
  obtain ⟨t342, A50, H⟩ := H
  replace H : (if t341 = t342 then ((triads_Kind_walk.f a0_0 a0_1 a0_2 a0_0 a1).bind fun t343 => ((triads_Kind_walk.f a0_0 a0_1 a0_2 a0_0 a2).bind fun t344 => (some (t343 == t344)))) else (some false)) = some r := H
  have A5 := Aside0.mk A50
  clear A50
  by_cases c6 : t341 = t342
  · rw [if_pos c6] at H
    have c6b0 : (t341 == t342) = true := beq_iff_eq.mpr c6
    have c6b1 : (t341 != t342) = false := bne_eq_false_iff_eq.mpr c6
    clear c6
    replace H := Option.bind_eq_some_iff.mp H
    obtain ⟨t343, A70, H⟩ := H
    replace H : ((triads_Kind_walk.f a0_0 a0_1 a0_2 a0_0 a2).bind fun t344 => (some (t343 == t344))) = some r := H
    have A7 := Aside0.mk A70
    clear A70
    replace H := Option.bind_eq_some_iff.mp H
    obtain ⟨t344, A80, H⟩ := H
    replace H : (some (t343 == t344)) = some r := H
    have A8 := Aside0.mk A80
    clear A80
    obtain rfl := Option.some.inj H
    go_enter Tryd.func66, Tryd.ntmps66
    try go_wp2_with (first | ((with_reducible refine gate_dst (N := 3) rfl ?_); refine box_event ?hg (N := 3) ?hd (cs := #[.int .i64 a0_0, .int .i64 a0_1, .int .i64 a0_2]) (t := 27) ?hr ?_; (case hd => rfl); (case hg => rfl); (case hr => first | (go_simp; done) | (go_simp; rfl)); intro gb340 hg w9 hbox hb; have n0_ := Aside0.mk (below_step (by repeat (first | (with_reducible first | exact HB.out | apply below_alloc | apply pw_below_drewN | apply below_drew1) | exact HB.out)) hb); have n1_ := Aside0.mk (hbox); have n2_ := Aside0.mk ((by rw [hg]; exact (below_size (by repeat (first | (with_reducible first | exact HB.out | apply below_alloc | apply pw_below_drewN | apply below_drew1) | exact HB.out))) : w.heap.size ≤ gb340)); have n3_ := Aside0.mk ((by rw [hg]; exact (below_size (by repeat (first | (with_reducible first | exact HB.out | apply below_alloc | apply pw_below_drewN | apply below_drew1) | exact HB.out))) : w.heap.size ≤ gb340)); clear HB; have HB := n0_; have BK340 := n1_; have GW340 := n2_; have GE340 := n3_; clear n0_ n1_ n2_ n3_; clear hb hbox hg))
    have n0_ := Aside0.mk (blk_drew BK340.out)
    have n1_ := Aside0.mk (below_drew1 HB.out)
    clear BK340
    clear HB
    have BK340 := n0_
    have HB := n1_
    clear n0_ n1_
    refine start_ (n := 21) (S := fun w' => w'.cell? ⟨gb340, 0, none⟩ = some (.int .i64 a0_0) ∧ w'.cell? ⟨gb340, 1, none⟩ = some (.int .i64 a0_1) ∧ w'.cell? ⟨gb340, 2, none⟩ = some (.int .i64 a0_2)) (ds := []) #[false, false, false, false, false, false, false, false, false, false, false, false, false, false, false, false, false, false, false, false, false] (by kernel_rfl) rfl rfl ⟨(blk_cell BK340.out 0).trans rfl, (blk_cell BK340.out 1).trans rfl, (blk_cell BK340.out 2).trans rfl⟩ (fun hHeld => ?_); refine with_tabW triads_Kind_alike.tab1 triads_Kind_alike.bits1 (fun HT_ HW_ => ?_)
    generalize w9.drew = w10 at BK340 HB hHeld ⊢
    refine pure_ (i := 1) (N := some 8) (v := ?_) (a' := ?_) #[false, true, false, false, false, false, false, false, false, false, false, false, false, false, false, false, false, false, false, false, false] rfl rfl (any_of HT_.out (by kernel_rfl)) (fun _ _ _ h => h) (Or.inl ⟨by rfl, ?_⟩) ?_ ?_
    rotate_left
    · intro w'
      go_simp
      with_reducible rfl
    rotate_left
    · simp only [Act.put, List.setIfInBounds_toArray, List.set_cons_zero, List.set_cons_succ, i64_w, i32_w]
      rfl
    refine pure_ (i := 4) (N := some 11) (v := ?_) (a' := ?_) #[false, true, false, false, true, false, false, false, false, false, false, false, false, false, false, false, false, false, false, false, false] rfl rfl (any_of HT_.out (by kernel_rfl)) (fun _ _ _ h => h) (Or.inl ⟨by rfl, ?_⟩) ?_ ?_
    rotate_left
    · intro w'
      go_simp
      with_reducible rfl
    rotate_left
    · simp only [Act.put, List.setIfInBounds_toArray, List.set_cons_zero, List.set_cons_succ, i64_w, i32_w]
      rfl
    refine take_ (i := 0) (N := some 7) (v := ?_) (a' := ?_) #[true, true, false, false, true, false, false, false, false, false, false, false, false, false, false, false, false, false, false, false, false] rfl rfl (take_ofW HT_.out HW_.out (by kernel_rfl)) (fun _ _ _ h => h) (Or.inl ⟨by rfl, ?_⟩) hHeld ?_ ?_
    rotate_left
    · rintro w' ⟨s0, s1, s2⟩
      go_simp
      with_reducible rfl
    rotate_left
    · simp only [Act.put, List.setIfInBounds_toArray, List.set_cons_zero, List.set_cons_succ, i64_w, i32_w]
      rfl
    refine take_ (i := 3) (N := some 10) (v := ?_) (a' := ?_) #[true, true, false, true, true, false, false, false, false, false, false, false, false, false, false, false, false, false, false, false, false] rfl rfl (take_ofW HT_.out HW_.out (by kernel_rfl)) (fun _ _ _ h => h) (Or.inl ⟨by rfl, ?_⟩) hHeld ?_ ?_
    rotate_left
    · rintro w' ⟨s0, s1, s2⟩
      go_simp
      with_reducible rfl
    rotate_left
    · simp only [Act.put, List.setIfInBounds_toArray, List.set_cons_zero, List.set_cons_succ, i64_w, i32_w]
      rfl
    refine one_ (i := 2) (N := some 9) #[true, true, true, true, true, false, false, false, false, false, false, false, false, false, false, false, false, false, false, false, false] rfl rfl (one_of HT_.out (by kernel_rfl)) (by decide) (fun K hK => ?_)
    refine goes_ Tryd.func55 (by kernel_rfl) rfl #[.agg #[.int .i64 a0_0, .int .i64 a0_1, .int .i64 a0_2], .int .i64 0, .string a1] (by rfl) rfl rfl (by (try simp only [List.map_toArray, List.map_cons, List.map_nil]); first | done | rfl | (simp only [List.length_drop, List.length_take]; rfl)) ?_
    with_reducible refine (triads_Kind_walk.calls a0_0 a0_1 a0_2 0 a1 t341 _ A4.out).mono ?_
    rintro e w11 ⟨rfl, hb⟩
    refine ⟨_, rfl, ?_⟩
    have n0_ := Aside0.mk (blk_below (g := gb340) (o := .cells #[.int .i64 a0_0, .int .i64 a0_1, .int .i64 a0_2] 27 (0, 0)) (by (with_reducible repeat (first | refine blk_drewN ?_ _ | refine blk_drew ?_ | refine blk_alloc ?_ _)); exact BK340.out) hb)
    have n1_ := Aside0.mk (below_step (by repeat (first | (with_reducible first | exact HB.out | apply below_alloc | apply pw_below_drewN | apply below_drew1 | refine below_set ?_ GE340.out) | exact HB.out)) hb)
    clear BK340
    clear HB
    have BK340 := n0_
    have HB := n1_
    clear n0_ n1_
    (try clear hb)
    (try clear hb2)
    (try clear hk)
    (try clear hi)
    refine hK.out _ _ ⟨(blk_cell BK340.out 0).trans rfl, (blk_cell BK340.out 1).trans rfl, (blk_cell BK340.out 2).trans rfl⟩ (fun hHeld => ?_)
    clear hK K
    refine norm_ (a' := ?_) ?_ ?_
    rotate_left
    · show Act.put _ (some 9) _ = _
      simp only [Act.put, List.setIfInBounds_toArray, List.set_cons_zero, List.set_cons_succ, i64_w, i32_w]
      rfl
    refine one_ (i := 5) (N := some 12) #[true, true, true, true, true, true, false, false, false, false, false, false, false, false, false, false, false, false, false, false, false] rfl rfl (one_of HT_.out (by kernel_rfl)) (by decide) (fun K hK => ?_)
    refine goes_ Tryd.func55 (by kernel_rfl) rfl #[.agg #[.int .i64 a0_0, .int .i64 a0_1, .int .i64 a0_2], .int .i64 0, .string a2] (by rfl) rfl rfl (by (try simp only [List.map_toArray, List.map_cons, List.map_nil]); first | done | rfl | (simp only [List.length_drop, List.length_take]; rfl)) ?_
    with_reducible refine (triads_Kind_walk.calls a0_0 a0_1 a0_2 0 a2 t342 _ A5.out).mono ?_
    rintro e w12 ⟨rfl, hb⟩
    refine ⟨_, rfl, ?_⟩
    have n0_ := Aside0.mk (blk_below (g := gb340) (o := .cells #[.int .i64 a0_0, .int .i64 a0_1, .int .i64 a0_2] 27 (0, 0)) (by (with_reducible repeat (first | refine blk_drewN ?_ _ | refine blk_drew ?_ | refine blk_alloc ?_ _)); exact BK340.out) hb)
    have n1_ := Aside0.mk (below_step (by repeat (first | (with_reducible first | exact HB.out | apply below_alloc | apply pw_below_drewN | apply below_drew1 | refine below_set ?_ GE340.out) | exact HB.out)) hb)
    clear BK340
    clear HB
    have BK340 := n0_
    have HB := n1_
    clear n0_ n1_
    (try clear hb)
    (try clear hb2)
    (try clear hk)
    (try clear hi)
    refine hK.out _ _ ⟨(blk_cell BK340.out 0).trans rfl, (blk_cell BK340.out 1).trans rfl, (blk_cell BK340.out 2).trans rfl⟩ (fun hHeld => ?_)
    clear hK K
    refine norm_ (a' := ?_) ?_ ?_
    rotate_left
    · show Act.put _ (some 12) _ = _
      simp only [Act.put, List.setIfInBounds_toArray, List.set_cons_zero, List.set_cons_succ, i64_w, i32_w]
      rfl
    refine pure_ (i := 6) (N := some 13) (v := ?_) (a' := ?_) #[true, true, true, true, true, true, true, false, false, false, false, false, false, false, false, false, false, false, false, false, false] rfl rfl (any_of HT_.out (by kernel_rfl)) (fun _ _ _ h => h) (Or.inl ⟨by rfl, ?_⟩) ?_ ?_
    rotate_left
    · intro w'
      go_simp
      with_reducible rfl
    rotate_left
    · simp only [Act.put, List.setIfInBounds_toArray, List.set_cons_zero, List.set_cons_succ, i64_w, i32_w]
      rfl
    refine pure_ (i := 7) (N := some 14) (v := ?_) (a' := ?_) #[true, true, true, true, true, true, true, true, false, false, false, false, false, false, false, false, false, false, false, false, false] rfl rfl (any_of HT_.out (by kernel_rfl)) (fun _ _ _ h => h) (Or.inl ⟨by rfl, ?_⟩) ?_ ?_
    rotate_left
    · intro w'
      go_simp
      with_reducible rfl
    rotate_left
    · simp only [Act.put, List.setIfInBounds_toArray, List.set_cons_zero, List.set_cons_succ, i64_w, i32_w]
      rfl
    refine pure_ (i := 9) (N := some 16) (v := ?_) (a' := ?_) #[true, true, true, true, true, true, true, true, false, true, false, false, false, false, false, false, false, false, false, false, false] rfl rfl (any_of HT_.out (by kernel_rfl)) (fun _ _ _ h => h) (Or.inl ⟨by rfl, ?_⟩) ?_ ?_
    rotate_left
    · intro w'
      go_simp
      with_reducible rfl
    rotate_left
    · simp only [Act.put, List.setIfInBounds_toArray, List.set_cons_zero, List.set_cons_succ, i64_w, i32_w]
      rfl
    refine pure_ (i := 11) (N := some 18) (v := ?_) (a' := ?_) #[true, true, true, true, true, true, true, true, false, true, false, true, false, false, false, false, false, false, false, false, false] rfl rfl (any_of HT_.out (by kernel_rfl)) (fun _ _ _ h => h) (Or.inl ⟨by rfl, ?_⟩) ?_ ?_
    rotate_left
    · intro w'
      go_simp
      with_reducible rfl
    rotate_left
    · simp only [Act.put, List.setIfInBounds_toArray, List.set_cons_zero, List.set_cons_succ, i64_w, i32_w]
      rfl
    refine pure_ (i := 14) (N := some 21) (v := ?_) (a' := ?_) #[true, true, true, true, true, true, true, true, false, true, false, true, false, false, true, false, false, false, false, false, false] rfl rfl (any_of HT_.out (by kernel_rfl)) (fun _ _ _ h => h) (Or.inl ⟨by rfl, ?_⟩) ?_ ?_
    rotate_left
    · intro w'
      go_simp
      with_reducible rfl
    rotate_left
    · simp only [Act.put, List.setIfInBounds_toArray, List.set_cons_zero, List.set_cons_succ, i64_w, i32_w]
      rfl
    refine pure_ (i := 16) (N := some 23) (v := ?_) (a' := ?_) #[true, true, true, true, true, true, true, true, false, true, false, true, false, false, true, false, true, false, false, false, false] rfl rfl (any_of HT_.out (by kernel_rfl)) (fun _ _ _ h => h) (Or.inl ⟨by rfl, ?_⟩) ?_ ?_
    rotate_left
    · intro w'
      go_simp
      with_reducible rfl
    rotate_left
    · simp only [Act.put, List.setIfInBounds_toArray, List.set_cons_zero, List.set_cons_succ, i64_w, i32_w]
      rfl
    refine take_ (i := 8) (N := some 15) (v := ?_) (a' := ?_) #[true, true, true, true, true, true, true, true, true, true, false, true, false, false, true, false, true, false, false, false, false] rfl rfl (take_ofW HT_.out HW_.out (by kernel_rfl)) (fun _ _ _ h => h) (Or.inl ⟨by rfl, ?_⟩) hHeld ?_ ?_
    rotate_left
    · rintro w' ⟨s0, s1, s2⟩
      go_simp
      with_reducible rfl
    rotate_left
    · simp only [Act.put, List.setIfInBounds_toArray, List.set_cons_zero, List.set_cons_succ, i64_w, i32_w]
      rfl
    refine take_ (i := 10) (N := some 17) (v := ?_) (a' := ?_) #[true, true, true, true, true, true, true, true, true, true, true, true, false, false, true, false, true, false, false, false, false] rfl rfl (take_ofW HT_.out HW_.out (by kernel_rfl)) (fun _ _ _ h => h) (Or.inl ⟨by rfl, ?_⟩) hHeld ?_ ?_
    rotate_left
    · rintro w' ⟨s0, s1, s2⟩
      go_simp
      with_reducible rfl
    rotate_left
    · simp only [Act.put, List.setIfInBounds_toArray, List.set_cons_zero, List.set_cons_succ, i64_w, i32_w]
      rfl
    refine take_ (i := 13) (N := some 20) (v := ?_) (a' := ?_) #[true, true, true, true, true, true, true, true, true, true, true, true, false, true, true, false, true, false, false, false, false] rfl rfl (take_ofW HT_.out HW_.out (by kernel_rfl)) (fun _ _ _ h => h) (Or.inl ⟨by rfl, ?_⟩) hHeld ?_ ?_
    rotate_left
    · rintro w' ⟨s0, s1, s2⟩
      go_simp
      with_reducible rfl
    rotate_left
    · simp only [Act.put, List.setIfInBounds_toArray, List.set_cons_zero, List.set_cons_succ, i64_w, i32_w]
      rfl
    refine take_ (i := 15) (N := some 22) (v := ?_) (a' := ?_) #[true, true, true, true, true, true, true, true, true, true, true, true, false, true, true, true, true, false, false, false, false] rfl rfl (take_ofW HT_.out HW_.out (by kernel_rfl)) (fun _ _ _ h => h) (Or.inl ⟨by rfl, ?_⟩) hHeld ?_ ?_
    rotate_left
    · rintro w' ⟨s0, s1, s2⟩
      go_simp
      with_reducible rfl
    rotate_left
    · simp only [Act.put, List.setIfInBounds_toArray, List.set_cons_zero, List.set_cons_succ, i64_w, i32_w]
      rfl
    refine one_ (i := 12) (N := some 19) #[true, true, true, true, true, true, true, true, true, true, true, true, true, true, true, true, true, false, false, false, false] rfl rfl (one_of HT_.out (by kernel_rfl)) (by decide) (fun K hK => ?_)
    refine goes_ Tryd.func55 (by kernel_rfl) rfl #[.agg #[.int .i64 a0_0, .int .i64 a0_1, .int .i64 a0_2], .int .i64 a0_0, .string a1] (by rfl) rfl rfl (by (try simp only [List.map_toArray, List.map_cons, List.map_nil]); first | done | rfl | (simp only [List.length_drop, List.length_take]; rfl)) ?_
    with_reducible refine (triads_Kind_walk.calls a0_0 a0_1 a0_2 a0_0 a1 t343 _ A7.out).mono ?_
    rintro e w13 ⟨rfl, hb⟩
    refine ⟨_, rfl, ?_⟩
    have n0_ := Aside0.mk (blk_below (g := gb340) (o := .cells #[.int .i64 a0_0, .int .i64 a0_1, .int .i64 a0_2] 27 (0, 0)) (by (with_reducible repeat (first | refine blk_drewN ?_ _ | refine blk_drew ?_ | refine blk_alloc ?_ _)); exact BK340.out) hb)
    have n1_ := Aside0.mk (below_step (by repeat (first | (with_reducible first | exact HB.out | apply below_alloc | apply pw_below_drewN | apply below_drew1 | refine below_set ?_ GE340.out) | exact HB.out)) hb)
    clear BK340
    clear HB
    have BK340 := n0_
    have HB := n1_
    clear n0_ n1_
    (try clear hb)
    (try clear hb2)
    (try clear hk)
    (try clear hi)
    refine hK.out _ _ ⟨(blk_cell BK340.out 0).trans rfl, (blk_cell BK340.out 1).trans rfl, (blk_cell BK340.out 2).trans rfl⟩ (fun hHeld => ?_)
    clear hK K
    refine norm_ (a' := ?_) ?_ ?_
    rotate_left
    · show Act.put _ (some 19) _ = _
      simp only [Act.put, List.setIfInBounds_toArray, List.set_cons_zero, List.set_cons_succ, i64_w, i32_w]
      rfl
    refine one_ (i := 17) (N := some 24) #[true, true, true, true, true, true, true, true, true, true, true, true, true, true, true, true, true, true, false, false, false] rfl rfl (one_of HT_.out (by kernel_rfl)) (by decide) (fun K hK => ?_)
    refine goes_ Tryd.func55 (by kernel_rfl) rfl #[.agg #[.int .i64 a0_0, .int .i64 a0_1, .int .i64 a0_2], .int .i64 a0_0, .string a2] (by rfl) rfl rfl (by (try simp only [List.map_toArray, List.map_cons, List.map_nil]); first | done | rfl | (simp only [List.length_drop, List.length_take]; rfl)) ?_
    with_reducible refine (triads_Kind_walk.calls a0_0 a0_1 a0_2 a0_0 a2 t344 _ A8.out).mono ?_
    rintro e w14 ⟨rfl, hb⟩
    refine ⟨_, rfl, ?_⟩
    have n0_ := Aside0.mk (blk_below (g := gb340) (o := .cells #[.int .i64 a0_0, .int .i64 a0_1, .int .i64 a0_2] 27 (0, 0)) (by (with_reducible repeat (first | refine blk_drewN ?_ _ | refine blk_drew ?_ | refine blk_alloc ?_ _)); exact BK340.out) hb)
    have n1_ := Aside0.mk (below_step (by repeat (first | (with_reducible first | exact HB.out | apply below_alloc | apply pw_below_drewN | apply below_drew1 | refine below_set ?_ GE340.out) | exact HB.out)) hb)
    clear BK340
    clear HB
    have BK340 := n0_
    have HB := n1_
    clear n0_ n1_
    (try clear hb)
    (try clear hb2)
    (try clear hk)
    (try clear hi)
    refine hK.out _ _ ⟨(blk_cell BK340.out 0).trans rfl, (blk_cell BK340.out 1).trans rfl, (blk_cell BK340.out 2).trans rfl⟩ (fun hHeld => ?_)
    clear hK K
    refine norm_ (a' := ?_) ?_ ?_
    rotate_left
    · show Act.put _ (some 24) _ = _
      simp only [Act.put, List.setIfInBounds_toArray, List.set_cons_zero, List.set_cons_succ, i64_w, i32_w]
      rfl
    refine pure_ (i := 18) (N := some 25) (v := ?_) (a' := ?_) #[true, true, true, true, true, true, true, true, true, true, true, true, true, true, true, true, true, true, true, false, false] rfl rfl (any_of HT_.out (by kernel_rfl)) (fun _ _ _ h => h) (Or.inl ⟨by rfl, ?_⟩) ?_ ?_
    rotate_left
    · intro w'
      go_simp
      with_reducible rfl
    rotate_left
    · simp only [Act.put, List.setIfInBounds_toArray, List.set_cons_zero, List.set_cons_succ, i64_w, i32_w]
      rfl
    refine pure_ (i := 19) (N := some 26) (v := ?_) (a' := ?_) #[true, true, true, true, true, true, true, true, true, true, true, true, true, true, true, true, true, true, true, true, false] rfl rfl (any_of HT_.out (by kernel_rfl)) (fun _ _ _ h => h) (Or.inl ⟨by rfl, ?_⟩) ?_ ?_
    rotate_left
    · intro w'
      go_simp
      with_reducible rfl
    rotate_left
    · simp only [Act.put, List.setIfInBounds_toArray, List.set_cons_zero, List.set_cons_succ, i64_w, i32_w]
      rfl
    refine pure_ (i := 20) (N := some 6) (v := ?_) (a' := ?_) #[true, true, true, true, true, true, true, true, true, true, true, true, true, true, true, true, true, true, true, true, true] rfl rfl (any_of HT_.out (by kernel_rfl)) (fun _ _ _ h => h) (Or.inl ⟨by rfl, ?_⟩) ?_ ?_
    rotate_left
    · intro w'
      go_simp
      with_reducible rfl
    rotate_left
    · simp only [Act.put, List.setIfInBounds_toArray, List.set_cons_zero, List.set_cons_succ, i64_w, i32_w]
      rfl
    refine done_ (done_of HT_.out (by kernel_rfl)) ?_
    try go_wp2
    go_ret
    exact ⟨by first | rfl | (simp [errW_none, errW_some] <;> rfl) | (simp [*, errW_none, errW_some] <;> rfl), by repeat (first | (with_reducible first | exact HB.out | apply below_alloc | apply pw_below_drewN | apply below_drew1 | refine below_set ?_ GE340.out) | exact HB.out)⟩
  · rw [if_neg c6] at H
    have c6b0 : (t341 == t342) = false := beq_eq_false_iff_ne.mpr c6
    have c6b1 : (t341 != t342) = true := bne_iff_ne.mpr c6
    obtain rfl := Option.some.inj H
    go_enter Tryd.func66, Tryd.ntmps66
    try go_wp2_with (first | ((with_reducible refine gate_dst (N := 3) rfl ?_); refine box_event ?hg (N := 3) ?hd (cs := #[.int .i64 a0_0, .int .i64 a0_1, .int .i64 a0_2]) (t := 27) ?hr ?_; (case hd => rfl); (case hg => rfl); (case hr => first | (go_simp; done) | (go_simp; rfl)); intro gb340 hg w15 hbox hb; have n0_ := Aside0.mk (below_step (by repeat (first | (with_reducible first | exact HB.out | apply below_alloc | apply pw_below_drewN | apply below_drew1) | exact HB.out)) hb); have n1_ := Aside0.mk (hbox); have n2_ := Aside0.mk ((by rw [hg]; exact (below_size (by repeat (first | (with_reducible first | exact HB.out | apply below_alloc | apply pw_below_drewN | apply below_drew1) | exact HB.out))) : w.heap.size ≤ gb340)); have n3_ := Aside0.mk ((by rw [hg]; exact (below_size (by repeat (first | (with_reducible first | exact HB.out | apply below_alloc | apply pw_below_drewN | apply below_drew1) | exact HB.out))) : w.heap.size ≤ gb340)); clear HB; have HB := n0_; have BK340 := n1_; have GW340 := n2_; have GE340 := n3_; clear n0_ n1_ n2_ n3_; clear hb hbox hg))
    have n0_ := Aside0.mk (blk_drew BK340.out)
    have n1_ := Aside0.mk (below_drew1 HB.out)
    clear BK340
    clear HB
    have BK340 := n0_
    have HB := n1_
    clear n0_ n1_
    refine start_ (n := 21) (S := fun w' => w'.cell? ⟨gb340, 0, none⟩ = some (.int .i64 a0_0) ∧ w'.cell? ⟨gb340, 1, none⟩ = some (.int .i64 a0_1) ∧ w'.cell? ⟨gb340, 2, none⟩ = some (.int .i64 a0_2)) (ds := []) #[false, false, false, false, false, false, false, false, false, false, false, false, false, false, false, false, false, false, false, false, false] (by kernel_rfl) rfl rfl ⟨(blk_cell BK340.out 0).trans rfl, (blk_cell BK340.out 1).trans rfl, (blk_cell BK340.out 2).trans rfl⟩ (fun hHeld => ?_); refine with_tabW triads_Kind_alike.tab1 triads_Kind_alike.bits1 (fun HT_ HW_ => ?_)
    generalize w15.drew = w16 at BK340 HB hHeld ⊢
    refine pure_ (i := 1) (N := some 8) (v := ?_) (a' := ?_) #[false, true, false, false, false, false, false, false, false, false, false, false, false, false, false, false, false, false, false, false, false] rfl rfl (any_of HT_.out (by kernel_rfl)) (fun _ _ _ h => h) (Or.inl ⟨by rfl, ?_⟩) ?_ ?_
    rotate_left
    · intro w'
      go_simp
      with_reducible rfl
    rotate_left
    · simp only [Act.put, List.setIfInBounds_toArray, List.set_cons_zero, List.set_cons_succ, i64_w, i32_w]
      rfl
    refine pure_ (i := 4) (N := some 11) (v := ?_) (a' := ?_) #[false, true, false, false, true, false, false, false, false, false, false, false, false, false, false, false, false, false, false, false, false] rfl rfl (any_of HT_.out (by kernel_rfl)) (fun _ _ _ h => h) (Or.inl ⟨by rfl, ?_⟩) ?_ ?_
    rotate_left
    · intro w'
      go_simp
      with_reducible rfl
    rotate_left
    · simp only [Act.put, List.setIfInBounds_toArray, List.set_cons_zero, List.set_cons_succ, i64_w, i32_w]
      rfl
    refine take_ (i := 0) (N := some 7) (v := ?_) (a' := ?_) #[true, true, false, false, true, false, false, false, false, false, false, false, false, false, false, false, false, false, false, false, false] rfl rfl (take_ofW HT_.out HW_.out (by kernel_rfl)) (fun _ _ _ h => h) (Or.inl ⟨by rfl, ?_⟩) hHeld ?_ ?_
    rotate_left
    · rintro w' ⟨s0, s1, s2⟩
      go_simp
      with_reducible rfl
    rotate_left
    · simp only [Act.put, List.setIfInBounds_toArray, List.set_cons_zero, List.set_cons_succ, i64_w, i32_w]
      rfl
    refine take_ (i := 3) (N := some 10) (v := ?_) (a' := ?_) #[true, true, false, true, true, false, false, false, false, false, false, false, false, false, false, false, false, false, false, false, false] rfl rfl (take_ofW HT_.out HW_.out (by kernel_rfl)) (fun _ _ _ h => h) (Or.inl ⟨by rfl, ?_⟩) hHeld ?_ ?_
    rotate_left
    · rintro w' ⟨s0, s1, s2⟩
      go_simp
      with_reducible rfl
    rotate_left
    · simp only [Act.put, List.setIfInBounds_toArray, List.set_cons_zero, List.set_cons_succ, i64_w, i32_w]
      rfl
    refine one_ (i := 2) (N := some 9) #[true, true, true, true, true, false, false, false, false, false, false, false, false, false, false, false, false, false, false, false, false] rfl rfl (one_of HT_.out (by kernel_rfl)) (by decide) (fun K hK => ?_)
    refine goes_ Tryd.func55 (by kernel_rfl) rfl #[.agg #[.int .i64 a0_0, .int .i64 a0_1, .int .i64 a0_2], .int .i64 0, .string a1] (by rfl) rfl rfl (by (try simp only [List.map_toArray, List.map_cons, List.map_nil]); first | done | rfl | (simp only [List.length_drop, List.length_take]; rfl)) ?_
    with_reducible refine (triads_Kind_walk.calls a0_0 a0_1 a0_2 0 a1 t341 _ A4.out).mono ?_
    rintro e w17 ⟨rfl, hb⟩
    refine ⟨_, rfl, ?_⟩
    have n0_ := Aside0.mk (blk_below (g := gb340) (o := .cells #[.int .i64 a0_0, .int .i64 a0_1, .int .i64 a0_2] 27 (0, 0)) (by (with_reducible repeat (first | refine blk_drewN ?_ _ | refine blk_drew ?_ | refine blk_alloc ?_ _)); exact BK340.out) hb)
    have n1_ := Aside0.mk (below_step (by repeat (first | (with_reducible first | exact HB.out | apply below_alloc | apply pw_below_drewN | apply below_drew1 | refine below_set ?_ GE340.out) | exact HB.out)) hb)
    clear BK340
    clear HB
    have BK340 := n0_
    have HB := n1_
    clear n0_ n1_
    (try clear hb)
    (try clear hb2)
    (try clear hk)
    (try clear hi)
    refine hK.out _ _ ⟨(blk_cell BK340.out 0).trans rfl, (blk_cell BK340.out 1).trans rfl, (blk_cell BK340.out 2).trans rfl⟩ (fun hHeld => ?_)
    clear hK K
    refine norm_ (a' := ?_) ?_ ?_
    rotate_left
    · show Act.put _ (some 9) _ = _
      simp only [Act.put, List.setIfInBounds_toArray, List.set_cons_zero, List.set_cons_succ, i64_w, i32_w]
      rfl
    refine one_ (i := 5) (N := some 12) #[true, true, true, true, true, true, false, false, false, false, false, false, false, false, false, false, false, false, false, false, false] rfl rfl (one_of HT_.out (by kernel_rfl)) (by decide) (fun K hK => ?_)
    refine goes_ Tryd.func55 (by kernel_rfl) rfl #[.agg #[.int .i64 a0_0, .int .i64 a0_1, .int .i64 a0_2], .int .i64 0, .string a2] (by rfl) rfl rfl (by (try simp only [List.map_toArray, List.map_cons, List.map_nil]); first | done | rfl | (simp only [List.length_drop, List.length_take]; rfl)) ?_
    with_reducible refine (triads_Kind_walk.calls a0_0 a0_1 a0_2 0 a2 t342 _ A5.out).mono ?_
    rintro e w18 ⟨rfl, hb⟩
    refine ⟨_, rfl, ?_⟩
    have n0_ := Aside0.mk (blk_below (g := gb340) (o := .cells #[.int .i64 a0_0, .int .i64 a0_1, .int .i64 a0_2] 27 (0, 0)) (by (with_reducible repeat (first | refine blk_drewN ?_ _ | refine blk_drew ?_ | refine blk_alloc ?_ _)); exact BK340.out) hb)
    have n1_ := Aside0.mk (below_step (by repeat (first | (with_reducible first | exact HB.out | apply below_alloc | apply pw_below_drewN | apply below_drew1 | refine below_set ?_ GE340.out) | exact HB.out)) hb)
    clear BK340
    clear HB
    have BK340 := n0_
    have HB := n1_
    clear n0_ n1_
    (try clear hb)
    (try clear hb2)
    (try clear hk)
    (try clear hi)
    refine hK.out _ _ ⟨(blk_cell BK340.out 0).trans rfl, (blk_cell BK340.out 1).trans rfl, (blk_cell BK340.out 2).trans rfl⟩ (fun hHeld => ?_)
    clear hK K
    refine norm_ (a' := ?_) ?_ ?_
    rotate_left
    · show Act.put _ (some 12) _ = _
      simp only [Act.put, List.setIfInBounds_toArray, List.set_cons_zero, List.set_cons_succ, i64_w, i32_w]
      rfl
    refine pure_ (i := 6) (N := some 13) (v := ?_) (a' := ?_) #[true, true, true, true, true, true, true, false, false, false, false, false, false, false, false, false, false, false, false, false, false] rfl rfl (any_of HT_.out (by kernel_rfl)) (fun _ _ _ h => h) (Or.inl ⟨by rfl, ?_⟩) ?_ ?_
    rotate_left
    · intro w'
      go_simp
      with_reducible rfl
    rotate_left
    · simp only [Act.put, List.setIfInBounds_toArray, List.set_cons_zero, List.set_cons_succ, i64_w, i32_w]
      rfl
    refine pure_ (i := 7) (N := some 14) (v := ?_) (a' := ?_) #[true, true, true, true, true, true, true, true, false, false, false, false, false, false, false, false, false, false, false, false, false] rfl rfl (any_of HT_.out (by kernel_rfl)) (fun _ _ _ h => h) (Or.inl ⟨by rfl, ?_⟩) ?_ ?_
    rotate_left
    · intro w'
      go_simp
      with_reducible rfl
    rotate_left
    · simp only [Act.put, List.setIfInBounds_toArray, List.set_cons_zero, List.set_cons_succ, i64_w, i32_w]
      rfl
    refine pure_ (i := 8) (N := some 15) (v := undef) (a' := ?_) #[true, true, true, true, true, true, true, true, true, false, false, false, false, false, false, false, false, false, false, false, false] rfl rfl (any_of HT_.out (by kernel_rfl)) (fun _ _ _ h => h) (Or.inr ⟨by rfl, rfl⟩) ?_ ?_
    rotate_left
    · simp only [Act.put, List.setIfInBounds_toArray, List.set_cons_zero, List.set_cons_succ, i64_w, i32_w]
      rfl
    refine pure_ (i := 9) (N := some 16) (v := undef) (a' := ?_) #[true, true, true, true, true, true, true, true, true, true, false, false, false, false, false, false, false, false, false, false, false] rfl rfl (any_of HT_.out (by kernel_rfl)) (fun _ _ _ h => h) (Or.inr ⟨by rfl, rfl⟩) ?_ ?_
    rotate_left
    · simp only [Act.put, List.setIfInBounds_toArray, List.set_cons_zero, List.set_cons_succ, i64_w, i32_w]
      rfl
    refine pure_ (i := 10) (N := some 17) (v := undef) (a' := ?_) #[true, true, true, true, true, true, true, true, true, true, true, false, false, false, false, false, false, false, false, false, false] rfl rfl (any_of HT_.out (by kernel_rfl)) (fun _ _ _ h => h) (Or.inr ⟨by rfl, rfl⟩) ?_ ?_
    rotate_left
    · simp only [Act.put, List.setIfInBounds_toArray, List.set_cons_zero, List.set_cons_succ, i64_w, i32_w]
      rfl
    refine pure_ (i := 11) (N := some 18) (v := undef) (a' := ?_) #[true, true, true, true, true, true, true, true, true, true, true, true, false, false, false, false, false, false, false, false, false] rfl rfl (any_of HT_.out (by kernel_rfl)) (fun _ _ _ h => h) (Or.inr ⟨by rfl, rfl⟩) ?_ ?_
    rotate_left
    · simp only [Act.put, List.setIfInBounds_toArray, List.set_cons_zero, List.set_cons_succ, i64_w, i32_w]
      rfl
    refine pure_ (i := 12) (N := some 19) (v := undef) (a' := ?_) #[true, true, true, true, true, true, true, true, true, true, true, true, true, false, false, false, false, false, false, false, false] rfl rfl (any_of HT_.out (by kernel_rfl)) (fun _ _ _ h => h) (Or.inr ⟨by rfl, rfl⟩) ?_ ?_
    rotate_left
    · simp only [Act.put, List.setIfInBounds_toArray, List.set_cons_zero, List.set_cons_succ, i64_w, i32_w]
      rfl
    refine pure_ (i := 13) (N := some 20) (v := undef) (a' := ?_) #[true, true, true, true, true, true, true, true, true, true, true, true, true, true, false, false, false, false, false, false, false] rfl rfl (any_of HT_.out (by kernel_rfl)) (fun _ _ _ h => h) (Or.inr ⟨by rfl, rfl⟩) ?_ ?_
    rotate_left
    · simp only [Act.put, List.setIfInBounds_toArray, List.set_cons_zero, List.set_cons_succ, i64_w, i32_w]
      rfl
    refine pure_ (i := 14) (N := some 21) (v := undef) (a' := ?_) #[true, true, true, true, true, true, true, true, true, true, true, true, true, true, true, false, false, false, false, false, false] rfl rfl (any_of HT_.out (by kernel_rfl)) (fun _ _ _ h => h) (Or.inr ⟨by rfl, rfl⟩) ?_ ?_
    rotate_left
    · simp only [Act.put, List.setIfInBounds_toArray, List.set_cons_zero, List.set_cons_succ, i64_w, i32_w]
      rfl
    refine pure_ (i := 15) (N := some 22) (v := undef) (a' := ?_) #[true, true, true, true, true, true, true, true, true, true, true, true, true, true, true, true, false, false, false, false, false] rfl rfl (any_of HT_.out (by kernel_rfl)) (fun _ _ _ h => h) (Or.inr ⟨by rfl, rfl⟩) ?_ ?_
    rotate_left
    · simp only [Act.put, List.setIfInBounds_toArray, List.set_cons_zero, List.set_cons_succ, i64_w, i32_w]
      rfl
    refine pure_ (i := 16) (N := some 23) (v := undef) (a' := ?_) #[true, true, true, true, true, true, true, true, true, true, true, true, true, true, true, true, true, false, false, false, false] rfl rfl (any_of HT_.out (by kernel_rfl)) (fun _ _ _ h => h) (Or.inr ⟨by rfl, rfl⟩) ?_ ?_
    rotate_left
    · simp only [Act.put, List.setIfInBounds_toArray, List.set_cons_zero, List.set_cons_succ, i64_w, i32_w]
      rfl
    refine pure_ (i := 17) (N := some 24) (v := undef) (a' := ?_) #[true, true, true, true, true, true, true, true, true, true, true, true, true, true, true, true, true, true, false, false, false] rfl rfl (any_of HT_.out (by kernel_rfl)) (fun _ _ _ h => h) (Or.inr ⟨by rfl, rfl⟩) ?_ ?_
    rotate_left
    · simp only [Act.put, List.setIfInBounds_toArray, List.set_cons_zero, List.set_cons_succ, i64_w, i32_w]
      rfl
    refine pure_ (i := 18) (N := some 25) (v := undef) (a' := ?_) #[true, true, true, true, true, true, true, true, true, true, true, true, true, true, true, true, true, true, true, false, false] rfl rfl (any_of HT_.out (by kernel_rfl)) (fun _ _ _ h => h) (Or.inr ⟨by rfl, rfl⟩) ?_ ?_
    rotate_left
    · simp only [Act.put, List.setIfInBounds_toArray, List.set_cons_zero, List.set_cons_succ, i64_w, i32_w]
      rfl
    refine pure_ (i := 19) (N := some 26) (v := ?_) (a' := ?_) #[true, true, true, true, true, true, true, true, true, true, true, true, true, true, true, true, true, true, true, true, false] rfl rfl (any_of HT_.out (by kernel_rfl)) (fun _ _ _ h => h) (Or.inl ⟨by rfl, ?_⟩) ?_ ?_
    rotate_left
    · intro w'
      go_simp
      with_reducible rfl
    rotate_left
    · simp only [Act.put, List.setIfInBounds_toArray, List.set_cons_zero, List.set_cons_succ, i64_w, i32_w]
      rfl
    refine pure_ (i := 20) (N := some 6) (v := ?_) (a' := ?_) #[true, true, true, true, true, true, true, true, true, true, true, true, true, true, true, true, true, true, true, true, true] rfl rfl (any_of HT_.out (by kernel_rfl)) (fun _ _ _ h => h) (Or.inl ⟨by rfl, ?_⟩) ?_ ?_
    rotate_left
    · intro w'
      go_simp
      with_reducible rfl
    rotate_left
    · simp only [Act.put, List.setIfInBounds_toArray, List.set_cons_zero, List.set_cons_succ, i64_w, i32_w]
      rfl
    refine done_ (done_of HT_.out (by kernel_rfl)) ?_
    try go_wp2
    go_ret
    exact ⟨by first | rfl | (simp [errW_none, errW_some] <;> rfl) | (simp [*, errW_none, errW_some] <;> rfl), by repeat (first | (with_reducible first | exact HB.out | apply below_alloc | apply pw_below_drewN | apply below_drew1 | refine below_set ?_ GE340.out) | exact HB.out)⟩

end Go.Proofs.YtpaeobpmkdekfaaDoor.P
end

section
namespace Go.Proofs.YtpaeobpmkdekfaaDoor.Base
open Go.RowKit Go.Proofs.YtpaeobpmkdekfaaDoor.P Go.Proofs.YtpaeobpmkdekfaaDoor.Kit Go.Proofs.YtpaeobpmkdekfaaDoorW.PrintWords Go.Proofs.YtpaeobpmkdekfaaDoorW.PrintLast
theorem tm (x n : Int) (hn : 0 < n) : Int.tmod (Int.tmod x n + n) n = x % n := by
  have e := Int.emod_nonneg x (show n ≠ 0 by omega)
  have l := Int.emod_lt_of_pos x hn
  have hna : (n.natAbs : Int) = n := by omega
  have q : Int.tmod x n = x % n ∨ Int.tmod x n = x % n - n := by
    rw [Int.tmod_eq_emod]
    split
    · left; omega
    · right; rw [hna]
  rcases q with q | q
  · rw [q, Int.tmod_eq_emod_of_nonneg (by omega), Int.add_emod_right, Int.emod_emod_of_dvd _ (Int.dvd_refl n)]
  · rw [q, show x % n - n + n = x % n by omega, Int.tmod_eq_emod_of_nonneg e, Int.emod_emod_of_dvd _ (Int.dvd_refl n)]

/-- A Kind, as the document says. -/
def isKind (n a b : Int) : Bool := decide (5 ≤ n ∧ n ≤ 16 ∧ 0 < a ∧ a < b ∧ b < n ∧ a ≠ b - a ∧ a ≠ n - b ∧ b - a ≠ n - b)
def up (a b c : Int) : Int := if c = 80 then b else if c = 76 then a + b else a
def stepI (n a b t c : Int) : Int := if t < n then n + (t + up a b c) % n else (t - up a b c) % n
theorem up_le {n a b : Int} (h : isKind n a b = true) (c : Int) : 0 < up a b c ∧ up a b c ≤ 32 := by
  obtain ⟨h1, h2, h3, h4, h5, _⟩ := of_decide_eq_true h
  unfold up
  split
  · omega
  · split <;> omega
theorem step_range {n a b : Int} (h : isKind n a b = true) (t c : Int) : 0 ≤ stepI n a b t c ∧ stepI n a b t c < 2 * n := by
  obtain ⟨h1, h2, h3, h4, h5, _⟩ := of_decide_eq_true h
  unfold stepI
  split
  · have := Int.emod_nonneg (t + up a b c) (show n ≠ 0 by omega)
    have := Int.emod_lt_of_pos (t + up a b c) (show 0 < n by omega)
    omega
  · have := Int.emod_nonneg (t - up a b c) (show n ≠ 0 by omega)
    have := Int.emod_lt_of_pos (t - up a b c) (show 0 < n by omega)
    omega
theorem up_f {n a b : Int} (h : isKind n a b = true) (c : Int) : triads_Kind_up.f n a b c = some (up a b c) := by
  obtain ⟨h1, h2, h3, h4, h5, _⟩ := of_decide_eq_true h
  unfold triads_Kind_up.f up
  rw [w64 (x := a + b) (by omega) (by omega)]
  split
  · rfl
  · split <;> rfl
theorem tmod_small (x n : Int) (hn0 : 0 < n) : -n < Int.tmod x n ∧ Int.tmod x n < n := by
  have e := Int.emod_nonneg x (show n ≠ 0 by omega)
  have l := Int.emod_lt_of_pos x hn0
  have hna : (n.natAbs : Int) = n := by omega
  rw [Int.tmod_eq_emod]
  split
  · omega
  · rw [hna]
    have : x % n ≠ 0 := by
      intro h0
      have : n ∣ x := Int.dvd_of_emod_eq_zero h0
      omega
    omega
theorem number_f (n a b x : Int) (dark : Bool) (hn0 : 0 < n) (hn : n ≤ 16) : triads_Kind_number.f n a b x dark = some (if dark = true then x % n + n else x % n) := by
  have ts := tmod_small x n hn0
  have e := Int.emod_nonneg x (show n ≠ 0 by omega)
  have l := Int.emod_lt_of_pos x hn0
  unfold triads_Kind_number.f
  rw [if_neg (by omega), w64 (x := Int.tmod x n + n) (by omega) (by omega), tm x n hn0, w64 (x := x % n + n) (by omega) (by omega)]
  split <;> rfl
theorem step_f {n a b : Int} (h : isKind n a b = true) (t c : Int) (ht0 : 0 ≤ t) (ht : t < 2 * n) : triads_Kind_step.f n a b t c = some (stepI n a b t c) := by
  obtain ⟨h1, h2, h3, h4, h5, _⟩ := of_decide_eq_true h
  have hu := up_le h c
  unfold triads_Kind_step.f triads_Kind_triad.f stepI
  rw [if_neg (by omega)]
  simp only [Option.bind_some, up_f h]
  by_cases c1 : t < n
  · have e1 : Int.tmod t n = t := by rw [Int.tmod_eq_emod_of_nonneg ht0, Int.emod_eq_of_lt ht0 c1]
    have d1 : decide (t ≥ n) = false := decide_eq_false (by omega)
    rw [d1, e1, if_neg (by decide), w64 (x := t + up a b c) (by omega) (by omega), number_f n a b _ _ (by omega) h2, if_pos c1]
    simp only [Option.bind_some, Bool.not_false, if_true]
    congr 1
    omega
  · have e1 : Int.tmod t n = t - n := by rw [Int.tmod_eq_emod_of_nonneg ht0, ← Int.sub_emod_right, Int.emod_eq_of_lt (by omega) (by omega)]
    have d1 : decide (t ≥ n) = true := decide_eq_true (by omega)
    rw [d1, e1, if_pos rfl, w64 (x := t - n - up a b c) (by omega) (by omega), number_f n a b _ _ (by omega) h2, if_neg c1]
    simp only [Option.bind_some, Bool.not_true, Bool.false_eq_true, if_false]
    congr 1
    rw [show t - n - up a b c = t - up a b c - n by omega, Int.sub_emod_right]
end Go.Proofs.YtpaeobpmkdekfaaDoor.Base
end

section
namespace Go.Proofs.YtpaeobpmkdekfaaDoor.Base
open Go.RowKit Go.Proofs.YtpaeobpmkdekfaaDoor.P Go.Proofs.YtpaeobpmkdekfaaDoor.Kit Go.Proofs.YtpaeobpmkdekfaaDoorW.PrintWords Go.Proofs.YtpaeobpmkdekfaaDoorW.PrintLast
theorem Ev.done {α : Type} {g : Nat → Option α} {r : α} (h : ∀ k, g (k + 1) = some r) : Ev g r := Ev.step (f := fun _ => some r) h (Ev.now r)
/-- Go's ints. -/
def Int64 (x : Int) : Prop := -9223372036854775808 ≤ x ∧ x < 9223372036854775808
theorem valid_f (n a b : Int) (hn : Int64 n) (ha : Int64 a) (hb : Int64 b) : triads_Kind_valid.f n a b = some (isKind n a b) := by
  unfold triads_Kind_valid.f isKind
  unfold Int64 at *
  by_cases c1 : n < 5
  · rw [if_pos c1]; congr 1; symm; exact decide_eq_false (by omega)
  · rw [if_neg c1]
    by_cases c2 : n > 16
    · rw [if_pos c2]; congr 1; symm; exact decide_eq_false (by omega)
    · rw [if_neg c2]
      by_cases c3 : a ≤ 0
      · rw [if_pos c3]; congr 1; symm; exact decide_eq_false (by omega)
      · rw [if_neg c3]
        by_cases c4 : b ≤ a
        · rw [if_pos c4]; congr 1; symm; exact decide_eq_false (by omega)
        · rw [if_neg c4]
          by_cases c5 : n ≤ b
          · rw [if_pos c5]; congr 1; symm; exact decide_eq_false (by omega)
          · rw [if_neg c5, w64 (x := b - a) (by omega) (by omega), w64 (x := n - b) (by omega) (by omega)]
            by_cases c6 : a = b - a
            · rw [if_pos c6]; congr 1; symm; exact decide_eq_false (by omega)
            · rw [if_neg c6]
              by_cases c7 : b - a = n - b
              · rw [if_pos c7]; congr 1; symm; exact decide_eq_false (by omega)
              · rw [if_neg c7]
                congr 1
                rw [Bool.eq_iff_iff, bne_iff_ne, decide_eq_true_eq]
                omega
theorem rValid_f (n a b : Int) (hn : Int64 n) (ha : Int64 a) (hb : Int64 b) : sackbutref04_Valid.f n a b = some (isKind n a b) := by
  unfold sackbutref04_Valid.f isKind
  unfold Int64 at *
  by_cases c1 : n ≥ 5
  · rw [if_pos c1]
    by_cases c2 : n ≤ 16
    · rw [if_pos c2]
      by_cases c3 : a > 0
      · rw [if_pos c3]
        by_cases c4 : a < b
        · rw [if_pos c4]
          by_cases c5 : b < n
          · rw [if_pos c5, w64 (x := b - a) (by omega) (by omega), w64 (x := n - b) (by omega) (by omega)]
            by_cases c6 : a = b - a
            · rw [if_pos c6]; congr 1; symm; exact decide_eq_false (by omega)
            · rw [if_neg c6]
              by_cases c7 : a = n - b
              · rw [if_pos c7]; congr 1; symm; exact decide_eq_false (by omega)
              · rw [if_neg c7]
                congr 1
                rw [Bool.eq_iff_iff, bne_iff_ne, decide_eq_true_eq]
                omega
          · rw [if_neg c5]; congr 1; symm; exact decide_eq_false (by omega)
        · rw [if_neg c4]; congr 1; symm; exact decide_eq_false (by omega)
      · rw [if_neg c3]; congr 1; symm; exact decide_eq_false (by omega)
    · rw [if_neg c2]; congr 1; symm; exact decide_eq_false (by omega)
  · rw [if_neg c1]; congr 1; symm; exact decide_eq_false (by omega)

/-- A triad of a Kind. -/
def isTri (n t : Int) : Bool := decide (0 ≤ t ∧ t < 2 * n)
theorem notTriad_f (n t : Int) (h1 : 5 ≤ n) (h2 : n ≤ 16) : notTriad n t = !isTri n t := by
  unfold notTriad isTri
  rw [w64 (x := 2 * n) (by omega) (by omega), Bool.eq_iff_iff]
  simp
theorem isTriad_f (n a b t : Int) (hn : Int64 n) (ha : Int64 a) (hb : Int64 b) : triads_Kind_isTriad.f n a b [t] = some (isKind n a b && isTri n t) := by
  unfold triads_Kind_isTriad.f
  rw [valid_f n a b hn ha hb]
  simp only [Option.bind_some, List.any_cons, List.any_nil, Bool.or_false]
  cases h : isKind n a b with
  | false => simp
  | true =>
    obtain ⟨h1, h2, _⟩ := of_decide_eq_true h
    rw [notTriad_f n t h1 h2]
    simp

/-- A walk. -/
def walkI (n a b : Int) : List UInt8 → Int → Int
  | [], t => t
  | c :: l, t => walkI n a b l (stepI n a b t (c.toNat : Int))
theorem walk_go {n a b : Int} (h : isKind n a b = true) : ∀ (l : List UInt8) (t : Int), 0 ≤ t → t < 2 * n → triads_Kind_walk.go n a b l t = some (walkI n a b l t)
  | [], t, _, _ => rfl
  | c :: l, t, h0, h1 => by
    have hr := step_range h t (c.toNat : Int)
    rw [triads_Kind_walk.go, step_f h t _ h0 h1]
    exact walk_go h l _ hr.1 hr.2

end Go.Proofs.YtpaeobpmkdekfaaDoor.Base
end

section
namespace Go.Proofs.YtpaeobpmkdekfaaDoor.Base
open Go.RowKit Go.Proofs.YtpaeobpmkdekfaaDoor.P Go.Proofs.YtpaeobpmkdekfaaDoor.Kit Go.Proofs.YtpaeobpmkdekfaaDoorW.PrintWords Go.Proofs.YtpaeobpmkdekfaaDoorW.PrintLast
theorem awake_f : sackbutlaw04_awake.f = some true := by decide +kernel
def isWalkB (s : ByteArray) : Bool := decide (s.size ≤ 60) && s.data.toList.all stepByte
theorem text_short (s : ByteArray) (h : s.size ≤ 70) : sackbutlaw04_text.f s = some s := by
  unfold sackbutlaw04_text.f
  have e : mn (s.size : Int) 70 = (s.size : Int) := by unfold mn; split <;> omega
  rw [e, if_pos (by omega), if_pos (by omega), Int.toNat_natCast]
  congr 1
  apply ByteArray.ext
  rw [ByteArray.data_extract]
  exact Array.extract_size
theorem text_long (s : ByteArray) (h : 70 < s.size) : ∃ x, sackbutlaw04_text.f s = some x ∧ x.size = 70 := by
  unfold sackbutlaw04_text.f
  have e : mn (s.size : Int) 70 = 70 := by unfold mn; split <;> omega
  rw [e, if_pos (by omega), if_pos (by omega)]
  refine ⟨_, rfl, ?_⟩
  rw [ByteArray.size_extract]
  have : (70 : Int).toNat = 70 := rfl
  rw [this]
  omega
theorem int64_of {x : Int} (h : (Lit.int .i64 x).wf = true) : Int64 x := by
  have h2 : (decide (IntKind.i64.min ≤ x) && decide (x ≤ IntKind.i64.max)) = true := h
  rw [Bool.and_eq_true, decide_eq_true_eq, decide_eq_true_eq] at h2
  have m1 : IntKind.i64.min = -9223372036854775808 := by decide
  have m2 : IntKind.i64.max = 9223372036854775807 := by decide
  rw [m1, m2] at h2
  unfold Int64
  omega
end Go.Proofs.YtpaeobpmkdekfaaDoor.Base
end

section
namespace Go.Proofs.YtpaeobpmkdekfaaDoor.Tri
open Go.Proofs.YtpaeobpmkdekfaaDoor.Base
/-- The triad of a sort, whose first tone is a number. -/
def pos (n : Int) (d : Bool) (r : Int) : Int := if d = true then n + r % n else r % n
theorem pos_range {n : Int} (hn : 0 < n) (d : Bool) (r : Int) : 0 ≤ pos n d r ∧ pos n d r < 2 * n := by
  have e := Int.emod_nonneg r (show n ≠ 0 by omega)
  have l := Int.emod_lt_of_pos r hn
  unfold pos
  split <;> omega
theorem pos_dark {n : Int} (hn : 0 < n) (d : Bool) (r : Int) : decide (n ≤ pos n d r) = d := by
  have e := Int.emod_nonneg r (show n ≠ 0 by omega)
  have l := Int.emod_lt_of_pos r hn
  unfold pos
  cases d <;> simp <;> omega
theorem pos_mod {n : Int} (d : Bool) (r : Int) : pos n d r % n = r % n := by
  unfold pos
  cases d
  · simp
  · simp
theorem pos_congr {n : Int} (d : Bool) {r s : Int} (h : r % n = s % n) : pos n d r = pos n d s := by
  unfold pos
  rw [h]
theorem pos_of {n t : Int} (h0 : 0 ≤ t) (h1 : t < 2 * n) : pos n (decide (n ≤ t)) t = t := by
  unfold pos
  by_cases h : n ≤ t
  · rw [decide_eq_true h, if_pos rfl]
    have : t % n = t - n := by rw [← Int.sub_emod_right, Int.emod_eq_of_lt (by omega) (by omega)]
    omega
  · rw [decide_eq_false h, if_neg (by decide)]
    exact Int.emod_eq_of_lt h0 (by omega)
theorem pos_inj {n : Int} (hn : 0 < n) {d e : Bool} {r s : Int} : pos n d r = pos n e s ↔ d = e ∧ r % n = s % n := by
  constructor
  · intro h
    refine ⟨?_, ?_⟩
    · rw [← pos_dark hn d r, ← pos_dark hn e s, h]
    · rw [← pos_mod d r, ← pos_mod e s, h]
  · rintro ⟨rfl, h⟩
    exact pos_congr d h
theorem emod_add_congr {n r s : Int} (h : r % n = s % n) (x : Int) : (r + x) % n = (s + x) % n := by
  rw [Int.add_emod, h, ← Int.add_emod]
theorem emod_sub_congr {n r s : Int} (h : r % n = s % n) (x : Int) : (r - x) % n = (s - x) % n := by
  rw [Int.sub_emod, h, ← Int.sub_emod]
theorem emod_rsub_congr {n r s : Int} (h : r % n = s % n) (x : Int) : (x - r) % n = (x - s) % n := by
  rw [Int.sub_emod, h, ← Int.sub_emod]
theorem step_pos {n : Int} (hn : 0 < n) (a b : Int) (d : Bool) (r c : Int) : stepI n a b (pos n d r) c = pos n (!d) (if d = true then r - up a b c else r + up a b c) := by
  have hd := pos_dark hn d r
  have hm := pos_mod (n := n) d r
  unfold stepI
  cases d with
  | true =>
    have := of_decide_eq_true hd
    rw [if_neg (by omega), if_pos rfl]
    unfold pos at hm ⊢
    simp only [if_true, Bool.not_true, Bool.false_eq_true, if_false]
    exact emod_sub_congr (by simp) _
  | false =>
    have := of_decide_eq_false hd
    rw [if_pos (by omega), if_neg (by decide)]
    unfold pos at hm ⊢
    simp only [Bool.false_eq_true, if_false, Bool.not_false, if_true]
    congr 1
    exact emod_add_congr (by simp) _

/-- By how much a walk goes up from a bright triad, and down from a dark one. -/
def alt (a b : Int) : List UInt8 → Int
  | [] => 0
  | c :: l => up a b (c.toNat : Int) - alt a b l
/-- Whether a walk has an odd number of steps. -/
def odd : List UInt8 → Bool
  | [] => false
  | _ :: l => !odd l
theorem walk_pos {n : Int} (hn : 0 < n) (a b : Int) : ∀ (l : List UInt8) (d : Bool) (r : Int), walkI n a b l (pos n d r) = pos n (d != odd l) (if d = true then r - alt a b l else r + alt a b l)
  | [], d, r => by
    unfold walkI odd alt
    cases d <;> simp
  | c :: l, d, r => by
    unfold walkI odd alt
    rw [step_pos hn, walk_pos hn a b l]
    cases d with
    | true =>
      simp only [Bool.not_true, Bool.false_eq_true, if_false, if_true]
      rw [show r - up a b (c.toNat : Int) + alt a b l = r - (up a b (c.toNat : Int) - alt a b l) by omega]
      cases odd l <;> rfl
    | false =>
      simp only [Bool.not_false, Bool.false_eq_true, if_false, if_true]
      rw [show r + up a b (c.toNat : Int) - alt a b l = r + (up a b (c.toNat : Int) - alt a b l) by omega]
      cases odd l <;> rfl
theorem walk_append (n a b : Int) : ∀ (l m : List UInt8) (t : Int), walkI n a b (l ++ m) t = walkI n a b m (walkI n a b l t)
  | [], _, _ => rfl
  | _ :: l, m, _ => walk_append n a b l m _
/-- A shift. -/
def shiftI (n t k : Int) (turned : Bool) : Int := pos n (decide (n ≤ t) != turned) (if turned = true then k - t else t + k)
theorem shift_pos {n : Int} (hn : 0 < n) (d : Bool) (r k : Int) (turned : Bool) : shiftI n (pos n d r) k turned = pos n (d != turned) (if turned = true then k - r else r + k) := by
  unfold shiftI
  rw [pos_dark hn]
  refine pos_congr _ ?_
  cases turned with
  | true => exact emod_rsub_congr (pos_mod d r) k
  | false => exact emod_add_congr (pos_mod d r) k
/-- Walk and then shift is shift and then walk. -/
theorem walk_shift {n : Int} (hn : 0 < n) (a b : Int) (l : List UInt8) (t k : Int) (turned : Bool) (h0 : 0 ≤ t) (h1 : t < 2 * n) : walkI n a b l (shiftI n t k turned) = shiftI n (walkI n a b l t) k turned := by
  rw [← pos_of h0 h1]
  generalize decide (n ≤ t) = d
  rw [shift_pos hn, walk_pos hn, walk_pos hn, shift_pos hn]
  generalize alt a b l = S
  generalize odd l = o
  cases d <;> cases turned <;> cases o <;> simp <;> (refine pos_congr _ ?_; congr 1; omega)
theorem walk_range {n : Int} (hn : 0 < n) (a b : Int) (l : List UInt8) (t : Int) (h0 : 0 ≤ t) (h1 : t < 2 * n) : 0 ≤ walkI n a b l t ∧ walkI n a b l t < 2 * n := by
  rw [← pos_of h0 h1, walk_pos hn]
  exact pos_range hn _ _
/-- Where two walks lead triad 0 to one triad they do the same everywhere. -/
theorem walk_eq_iff {n : Int} (hn : 0 < n) (a b : Int) (l m : List UInt8) (t : Int) (h0 : 0 ≤ t) (h1 : t < 2 * n) : walkI n a b l t = walkI n a b m t ↔ odd l = odd m ∧ alt a b l % n = alt a b m % n := by
  rw [← pos_of h0 h1]
  generalize decide (n ≤ t) = d
  rw [walk_pos hn, walk_pos hn, pos_inj hn]
  constructor
  · rintro ⟨g1, g2⟩
    refine ⟨?_, ?_⟩
    · clear g2
      revert g1
      cases d <;> cases odd l <;> cases odd m <;> simp
    · cases d with
      | true =>
        have := emod_rsub_congr g2 t
        simp only [if_true] at this
        rw [show t - (t - alt a b l) = alt a b l by omega, show t - (t - alt a b m) = alt a b m by omega] at this
        exact this
      | false =>
        have := emod_sub_congr g2 t
        simp only [Bool.false_eq_true, if_false] at this
        rw [show t + alt a b l - t = alt a b l by omega, show t + alt a b m - t = alt a b m by omega] at this
        exact this
  · rintro ⟨g1, g2⟩
    refine ⟨by rw [g1], ?_⟩
    cases d with
    | true => exact emod_rsub_congr g2 t
    | false =>
      simp only [Bool.false_eq_true, if_false]
      rw [Int.add_emod, g2, ← Int.add_emod]

end Go.Proofs.YtpaeobpmkdekfaaDoor.Tri
end
