/- Texts that the proof of EvenAll needs, put together in build order by this session's program (wip/tools/claimtrim.py). -/
import Derived.Test.YthbcdmbicfmeaaaEvenAllM5
import Derived.Test.YthbcdmbicfmeaaaEvenAllM10
import Derived.Test.YthbcdmbicfmeaaaEvenAllM11
import Derived.Test.YthbcdmbicfmeaaaEvenAllM12
import Derived.Test.YthbcdmbicfmeaaaEvenAllM8
import Derived.Test.YthbcdmbicfmeaaaEvenAllM9
import Derived.Test.YthbcdmbicfmeaaaEvenAllM7
import Derived.LoopIn
import Derived.LoopNIn
import Derived.OwnWalkIn
import Derived.RangeFuncBound
import Derived.RangeFuncCalls
import Derived.RangeFuncLeaves
import Derived.RangeFuncNested
import Derived.Shelf.Abstract
import Derived.Shelf.AbstractIn
import Derived.Shelf.RegionOpen
import Derived.Sort.BigQuietIn
import Derived.Sort.QuietIn
import Derived.TacticsInMore
import Derived.WalkKit
section
namespace Go.Proofs.Ythbcdmbicfmeaaa.P
open Go.RowKit Go.Proofs.YthbcdmbicfmeaaaW.PrintWords Go.Proofs.YthbcdmbicfmeaaaW.PrintLast Go.Proofs.YthbcdmbicfmeaaaW.PrintMore
attribute [local go_sem] max2_int min2_int max_two min_two max_three min_three max_four min_four   -- for this text's walks alone
set_option linter.unusedVariables false
set_option linter.unusedSimpArgs false
def even_scale_spans.l0 : Nat → Int → List Int → Int → Int → Int → List Int → Option (List Int)
  | 0, _, _, _, _, _, _ => none
  | k + 1, x1, x5, x9, x10, x203000, x203001 => if x10 < x9 then ((even_scale_at.f x203000 x203001 (wrap64 (x10 + x1))).bind fun t203 => ((even_scale_at.f x203000 x203001 x10).bind fun t204 => (if x5.length < 17592186044416 then (even_scale_spans.l0 k x1 (x5 ++ [wrap64 (t203 - t204)]) x9 (wrap64 (x10 + 1)) x203000 x203001) else (none)))) else ((slices_Sort_int_int.f x5).bind fun t208 => ((slices_Compact_int_int.f t208).bind fun t209 => (some t209)))
def even_scale_spans.f (k : Nat) (a0_0 : Int) (l0_1 : List Int) (a1 : Int) : Option (List Int) := even_scale_spans.l0 k a1 ([] : List Int) (l0_1.length : Int) 0 a0_0 l0_1
def even_scale_spans.T5 : Bool × List (List Nat × List Nat) := (true, [([], []), ([], []), ([], []), ([], []), ([2, 3], [2, 3]), ([1, 4], [1, 4]), ([], []), ([], []), ([6, 7, 5], [6, 7]), ([5, 8], [5, 8]), ([9], [9]), ([0, 10, 8], [0, 10]), ([11, 11, 0, 1, 2, 3, 4, 5, 6, 7, 8, 9, 10, 11], [0, 11])])
def even_scale_spans.B5 : List Nat := [0, 0, 0, 0, 12, 30, 0, 0, 254, 510, 1022, 2047, 4095]
theorem even_scale_spans.tab5 : rtab .any (opsOf Try.f54 5) = even_scale_spans.T5 := by kernel_rfl
theorem even_scale_spans.bits5 : waitsOk even_scale_spans.T5.2 even_scale_spans.B5 = true := by kernel_rfl
set_option maxHeartbeats 8000000 in
set_option maxRecDepth 100000 in
theorem even_scale_spans.calls (k : Nat) (a0_0 : Int) (A0_1 : Option Addr) (c0_1 : Nat) (l0_1 : List Int) (a1 : Int) (r : List Int) (w : World) (hr0_1 : Kd.C (Kd.int .i64) w A0_1 l0_1.length l0_1) (hc0_1 : l0_1.length ≤ c0_1) (h : even_scale_spans.f k a0_0 l0_1 a1 = some r) :
    Calls Try.prog 54 #[.agg #[.int .i64 a0_0, .slice A0_1 l0_1.length c0_1], .int .i64 a1] w fun e w' => ∃ v0_ : Value, e = .returned (v0_) ∧ Kd.R (Kd.int .i64) 3 w' w.heap.size (fun _ => True) v0_ r ∧ Below w.heap.size w w' := by
  have hu47 := Try.underlying47
  have HR0_1 := Aside0.mk hr0_1
  have HC0_1 := Aside0.mk hc0_1
  clear hr0_1 hc0_1
  have HB := Aside0.mk (Below.refl w.heap.size w)
  have H : (even_scale_spans.l0 k a1 ([] : List Int) (l0_1.length : Int) 0 a0_0 l0_1) = some r := h
  clear h
  have H' := Aside0.mk H
  clear H
  go_enter Try.func54, Try.ntmps54
  go_wp2_with (first | ((with_reducible refine gate_dst (N := 2) rfl ?_); refine box_event ?hg (N := 2) ?hd (cs := #[.int .i64 a0_0, .slice A0_1 l0_1.length c0_1]) (t := 47) ?hr ?_; (case hd => rfl); (case hg => rfl); (case hr => first | (go_simp; done) | (go_simp; rfl)); intro gb202 hg w3 hbox hb; have n0_ := Aside0.mk (below_step (by repeat (first | (with_reducible first | exact HB.out | apply below_alloc | apply pw_below_drewN | apply below_drew1) | exact HB.out)) hb); have n1_ := Aside0.mk (hbox); have n2_ := Aside0.mk ((by rw [hg]; exact (below_size (by repeat (first | (with_reducible first | exact HB.out | apply below_alloc | apply pw_below_drewN | apply below_drew1) | exact HB.out))) : w.heap.size ≤ gb202)); have n3_ := Aside0.mk ((by rw [hg]; exact (below_size (by repeat (first | (with_reducible first | exact HB.out | apply below_alloc | apply pw_below_drewN | apply below_drew1) | exact HB.out))) : w.heap.size ≤ gb202)); clear HB; have HB := n0_; have BK202 := n1_; have GW202 := n2_; have GE202 := n3_; clear n0_ n1_ n2_ n3_; clear hb hbox hg; have hcz4_0 : w3.cell? ⟨gb202, 0, none⟩ = some (.int .i64 a0_0) := (blk_cell BK202.out 0).trans rfl; have hcz4_1 : w3.cell? ⟨gb202, 1, none⟩ = some (.slice A0_1 l0_1.length c0_1) := (blk_cell BK202.out 1).trans rfl; have hfz4_0 := blk_frozen BK202.out 0; have hfz4_1 := blk_frozen BK202.out 1))
  go_loopg [5, 10] k (fun kq v5 v10 w' => ∃ (x5_1 : List Int) (x10_1 : Int), v10 = .int .i64 x10_1 ∧ Aside0 (even_scale_spans.l0 kq a1 x5_1 (l0_1.length : Int) x10_1 a0_0 l0_1 = some r) ∧ Aside0 (kq ≤ k) ∧ Aside0 (Kd.R (Kd.int .i64) 3 w' w.heap.size (fun _ => True) v5 x5_1) ∧ Aside0 (w'.heap[gb202]? = some (.cells #[.int .i64 a0_0, (.slice A0_1 l0_1.length c0_1)] 47 (0, 0))) ∧ Aside0 (Below w.heap.size w w'))
  case atStart => exact ⟨(([] : List Int)), (0), (by first | rfl | (simp; done) | (simp [*]; done)), H', ⟨Nat.le_refl _⟩, ⟨by first | exact Kd.R_nil _ _ _ _ _ | exact Kd.N_nil _ _ _ _ _ | exact Kd.V_nil _ _ _ _ _ | exact Kd.Q_nil _ _ _ _ _ | exact Kd.S_nil _ _ _ _ _⟩, ⟨by (with_reducible repeat (first | refine blk_drewN ?_ _ | refine blk_drew ?_ | refine blk_alloc ?_ _)); exact BK202.out⟩, ⟨by repeat (first | (with_reducible first | exact HB.out | apply below_alloc | apply pw_below_drewN | apply below_drew1 | refine below_set ?_ GE202.out) | exact HB.out)⟩⟩
  case round =>
    clear H'
    try clear p2
    try clear hcz4_0
    try clear hcz4_1
    try clear hfz4_0
    try clear hfz4_1
    obtain ⟨x5_1, x10_1, rfl, HA, HK1, HO_5, BK202, HB⟩ := hrel
    cases gk with
    | zero => exact absurd HA.out (by simp [even_scale_spans.l0])
    | succ k1 =>
      have H := HA.out
      clear HA
      simp only [even_scale_spans.l0] at H
      by_cases c5 : x10_1 < (l0_1.length : Int)
      · rw [if_pos c5] at H
        have c5b0 : decide (x10_1 < (l0_1.length : Int)) = true := decide_eq_true c5
        clear c5
        replace H := Option.bind_eq_some_iff.mp H
        obtain ⟨t203, A60, H⟩ := H
        replace H : ((even_scale_at.f a0_0 l0_1 x10_1).bind fun t204 => (if x5_1.length < 17592186044416 then (even_scale_spans.l0 k1 a1 (x5_1 ++ [wrap64 (t203 - t204)]) (l0_1.length : Int) (wrap64 (x10_1 + 1)) a0_0 l0_1) else (none))) = some r := H
        have A6 := Aside0.mk A60
        clear A60
        replace H := Option.bind_eq_some_iff.mp H
        obtain ⟨t204, A70, H⟩ := H
        replace H : (if x5_1.length < 17592186044416 then (even_scale_spans.l0 k1 a1 (x5_1 ++ [wrap64 (t203 - t204)]) (l0_1.length : Int) (wrap64 (x10_1 + 1)) a0_0 l0_1) else (none)) = some r := H
        have A7 := Aside0.mk A70
        clear A70
        by_cases c8 : x5_1.length < 17592186044416
        · rw [if_pos c8] at H
          have LMc8 := Aside0.mk c8
          clear c8
          obtain ⟨y205, hy205⟩ : ∃ y_ : List Int, y_ = (x5_1 ++ [wrap64 (t203 - t204)]) := ⟨_, rfl⟩
          replace H : (even_scale_spans.l0 k1 a1 y205 (l0_1.length : Int) (wrap64 (x10_1 + 1)) a0_0 l0_1) = some r := by first | (rw [hy205]; with_reducible exact H) | (have H2_ := (Option.bind_some _ _).symm.trans H; rw [hy205]; with_reducible exact H2_) | (have H2_ := (Option.bind_some _ _).symm.trans H; with_reducible exact H2_) | with_reducible exact H | (rw [hy205]; exact H) | exact H
          have Ny205 := Aside0.mk hy205
          clear hy205
          have H' := Aside0.mk H
          clear H
          try go_wp2
          have n0_ := Aside0.mk (Kd.R_drew HO_5.out)
          have n1_ := Aside0.mk (blk_drew BK202.out)
          have n2_ := Aside0.mk (below_drew1 HB.out)
          clear HO_5
          clear BK202
          clear HB
          have HO_5 := n0_
          have BK202 := n1_
          have HB := n2_
          clear n0_ n1_ n2_
          refine start_ (n := 13) (S := fun w' => w'.cell? ⟨gb202, 0, none⟩ = some (.int .i64 a0_0) ∧ w'.cell? ⟨gb202, 1, none⟩ = some (.slice A0_1 l0_1.length c0_1)) (ds := []) #[false, false, false, false, false, false, false, false, false, false, false, false, false] (by kernel_rfl) rfl rfl ⟨(blk_cell BK202.out 0).trans rfl, (blk_cell BK202.out 1).trans rfl⟩ (fun hHeld => ?_); refine with_tabW even_scale_spans.tab5 even_scale_spans.bits5 (fun HT_ HW_ => ?_)
          generalize wr.drew = w9 at HO_5 BK202 HB hHeld ⊢
          refine pure_ (i := 0) (N := some 13) (v := ?_) (a' := ?_) #[true, false, false, false, false, false, false, false, false, false, false, false, false] rfl rfl (any_of HT_.out (by kernel_rfl)) (fun _ _ _ h => h) (Or.inl ⟨by rfl, ?_⟩) ?_ ?_
          rotate_left
          · intro w'
            go_simp
            with_reducible rfl
          rotate_left
          · simp only [Act.put, List.setIfInBounds_toArray, List.set_cons_zero, List.set_cons_succ, i64_w, i32_w]
            rfl
          refine pure_ (i := 2) (N := some 15) (v := ?_) (a' := ?_) #[true, false, true, false, false, false, false, false, false, false, false, false, false] rfl rfl (any_of HT_.out (by kernel_rfl)) (fun _ _ _ h => h) (Or.inl ⟨by rfl, ?_⟩) ?_ ?_
          rotate_left
          · intro w'
            go_simp
            with_reducible rfl
          rotate_left
          · simp only [Act.put, List.setIfInBounds_toArray, List.set_cons_zero, List.set_cons_succ, i64_w, i32_w]
            rfl
          refine pure_ (i := 3) (N := some 16) (v := ?_) (a' := ?_) #[true, false, true, true, false, false, false, false, false, false, false, false, false] rfl rfl (any_of HT_.out (by kernel_rfl)) (fun _ _ _ h => h) (Or.inl ⟨by rfl, ?_⟩) ?_ ?_
          rotate_left
          · intro w'
            go_simp
            with_reducible rfl
          rotate_left
          · simp only [Act.put, List.setIfInBounds_toArray, List.set_cons_zero, List.set_cons_succ, i64_w, i32_w]
            rfl
          refine pure_ (i := 4) (N := some 17) (v := ?_) (a' := ?_) #[true, false, true, true, true, false, false, false, false, false, false, false, false] rfl rfl (any_of HT_.out (by kernel_rfl)) (fun _ _ _ h => h) (Or.inl ⟨by rfl, ?_⟩) ?_ ?_
          rotate_left
          · intro w'
            go_simp
            with_reducible rfl
          rotate_left
          · simp only [Act.put, List.setIfInBounds_toArray, List.set_cons_zero, List.set_cons_succ, i64_w, i32_w]
            rfl
          refine pure_ (i := 7) (N := some 20) (v := ?_) (a' := ?_) #[true, false, true, true, true, false, false, true, false, false, false, false, false] rfl rfl (any_of HT_.out (by kernel_rfl)) (fun _ _ _ h => h) (Or.inl ⟨by rfl, ?_⟩) ?_ ?_
          rotate_left
          · intro w'
            go_simp
            with_reducible rfl
          rotate_left
          · simp only [Act.put, List.setIfInBounds_toArray, List.set_cons_zero, List.set_cons_succ, i64_w, i32_w]
            rfl
          refine take_ (i := 1) (N := some 14) (v := ?_) (a' := ?_) #[true, true, true, true, true, false, false, true, false, false, false, false, false] rfl rfl (take_ofW HT_.out HW_.out (by kernel_rfl)) (fun _ _ _ h => h) (Or.inl ⟨by rfl, ?_⟩) hHeld ?_ ?_
          rotate_left
          · rintro w' ⟨s0, s1⟩
            go_simp
            with_reducible rfl
          rotate_left
          · simp only [Act.put, List.setIfInBounds_toArray, List.set_cons_zero, List.set_cons_succ, i64_w, i32_w]
            rfl
          refine take_ (i := 6) (N := some 19) (v := ?_) (a' := ?_) #[true, true, true, true, true, false, true, true, false, false, false, false, false] rfl rfl (take_ofW HT_.out HW_.out (by kernel_rfl)) (fun _ _ _ h => h) (Or.inl ⟨by rfl, ?_⟩) hHeld ?_ ?_
          rotate_left
          · rintro w' ⟨s0, s1⟩
            go_simp
            with_reducible rfl
          rotate_left
          · simp only [Act.put, List.setIfInBounds_toArray, List.set_cons_zero, List.set_cons_succ, i64_w, i32_w]
            rfl
          refine one_ (i := 5) (N := some 18) #[true, true, true, true, true, true, true, true, false, false, false, false, false] rfl rfl (one_of HT_.out (by kernel_rfl)) (by decide) (fun K hK => ?_)
          refine goes_ Try.func53 (by kernel_rfl) rfl #[.agg #[.int .i64 a0_0, .slice A0_1 l0_1.length c0_1], .int .i64 (wrap64 (x10_1 + a1))] (by rfl) rfl rfl (by (try simp only [List.map_toArray, List.map_cons, List.map_nil]); first | done | rfl | (simp only [List.length_drop, List.length_take]; rfl)) ?_
          with_reducible refine (even_scale_at.calls a0_0 _ _ l0_1 (wrap64 (x10_1 + a1)) t203 _ ?side1 ?side2 A6.out).mono ?_
          (case side1 => repeat (first | exact (Kd.C_below HR0_1.out HB.out) | (with_reducible refine Kd.C_alloc ?_ _) | (with_reducible refine Kd.C_drewN ?_ _) | (with_reducible refine Kd.C_drew ?_)))
          (case side2 => exact HC0_1.out)
          rintro e w10 ⟨rfl, hb⟩
          refine ⟨_, rfl, ?_⟩
          have n0_ := Aside0.mk (Kd.R_below (by (with_reducible repeat (first | apply Kd.R_alloc | apply Kd.R_drewN | apply Kd.R_drew)); exact HO_5.out) hb)
          have n1_ := Aside0.mk (blk_below (g := gb202) (o := .cells #[.int .i64 a0_0, .slice A0_1 l0_1.length c0_1] 47 (0, 0)) (by (with_reducible repeat (first | refine blk_drewN ?_ _ | refine blk_drew ?_ | refine blk_alloc ?_ _)); exact BK202.out) hb)
          have n2_ := Aside0.mk (below_step (by repeat (first | (with_reducible first | exact HB.out | apply below_alloc | apply pw_below_drewN | apply below_drew1 | refine below_set ?_ GE202.out) | exact HB.out)) hb)
          clear HO_5
          clear BK202
          clear HB
          have HO_5 := n0_
          have BK202 := n1_
          have HB := n2_
          clear n0_ n1_ n2_
          (try clear hb)
          (try clear hb2)
          (try clear hk)
          (try clear hi)
          refine hK.out _ _ ⟨(blk_cell BK202.out 0).trans rfl, (blk_cell BK202.out 1).trans rfl⟩ (fun hHeld => ?_)
          clear hK K
          refine norm_ (a' := ?_) ?_ ?_
          rotate_left
          · show Act.put _ (some 18) _ = _
            simp only [Act.put, List.setIfInBounds_toArray, List.set_cons_zero, List.set_cons_succ, i64_w, i32_w]
            rfl
          refine one_ (i := 8) (N := some 21) #[true, true, true, true, true, true, true, true, true, false, false, false, false] rfl rfl (one_of HT_.out (by kernel_rfl)) (by decide) (fun K hK => ?_)
          refine goes_ Try.func53 (by kernel_rfl) rfl #[.agg #[.int .i64 a0_0, .slice A0_1 l0_1.length c0_1], .int .i64 x10_1] (by rfl) rfl rfl (by (try simp only [List.map_toArray, List.map_cons, List.map_nil]); first | done | rfl | (simp only [List.length_drop, List.length_take]; rfl)) ?_
          with_reducible refine (even_scale_at.calls a0_0 _ _ l0_1 x10_1 t204 _ ?side1 ?side2 A7.out).mono ?_
          (case side1 => repeat (first | exact (Kd.C_below HR0_1.out HB.out) | (with_reducible refine Kd.C_alloc ?_ _) | (with_reducible refine Kd.C_drewN ?_ _) | (with_reducible refine Kd.C_drew ?_)))
          (case side2 => exact HC0_1.out)
          rintro e w11 ⟨rfl, hb⟩
          refine ⟨_, rfl, ?_⟩
          have n0_ := Aside0.mk (Kd.R_below (by (with_reducible repeat (first | apply Kd.R_alloc | apply Kd.R_drewN | apply Kd.R_drew)); exact HO_5.out) hb)
          have n1_ := Aside0.mk (blk_below (g := gb202) (o := .cells #[.int .i64 a0_0, .slice A0_1 l0_1.length c0_1] 47 (0, 0)) (by (with_reducible repeat (first | refine blk_drewN ?_ _ | refine blk_drew ?_ | refine blk_alloc ?_ _)); exact BK202.out) hb)
          have n2_ := Aside0.mk (below_step (by repeat (first | (with_reducible first | exact HB.out | apply below_alloc | apply pw_below_drewN | apply below_drew1 | refine below_set ?_ GE202.out) | exact HB.out)) hb)
          clear HO_5
          clear BK202
          clear HB
          have HO_5 := n0_
          have BK202 := n1_
          have HB := n2_
          clear n0_ n1_ n2_
          (try clear hb)
          (try clear hb2)
          (try clear hk)
          (try clear hi)
          refine hK.out _ _ ⟨(blk_cell BK202.out 0).trans rfl, (blk_cell BK202.out 1).trans rfl⟩ (fun hHeld => ?_)
          clear hK K
          refine norm_ (a' := ?_) ?_ ?_
          rotate_left
          · show Act.put _ (some 21) _ = _
            simp only [Act.put, List.setIfInBounds_toArray, List.set_cons_zero, List.set_cons_succ, i64_w, i32_w]
            rfl
          refine pure_ (i := 9) (N := some 22) (v := ?_) (a' := ?_) #[true, true, true, true, true, true, true, true, true, true, false, false, false] rfl rfl (any_of HT_.out (by kernel_rfl)) (fun _ _ _ h => h) (Or.inl ⟨by rfl, ?_⟩) ?_ ?_
          rotate_left
          · intro w'
            go_simp
            with_reducible rfl
          rotate_left
          · simp only [Act.put, List.setIfInBounds_toArray, List.set_cons_zero, List.set_cons_succ, i64_w, i32_w]
            rfl
          refine one_ (i := 10) (N := some 23) #[true, true, true, true, true, true, true, true, true, true, true, false, false] rfl rfl (one_of HT_.out (by kernel_rfl)) (by decide) (fun K hK => ?_)
          refine value_ (w1 := ?_) (v := ?_) (by rfl) rfl ?_ ?_
          rotate_left 2
          · go_simp
            constructor
            · rfl
            · rfl
          refine hK.out _ _ ⟨(blk_cell (blk_alloc BK202.out _) 0).trans rfl, (blk_cell (blk_alloc BK202.out _) 1).trans rfl⟩ (fun hHeld => ?_)
          clear hK K
          refine norm_ (a' := ?_) ?_ ?_
          rotate_left
          · show Act.put _ (some 23) _ = _
            simp only [Act.put, List.setIfInBounds_toArray, List.set_cons_zero, List.set_cons_succ, i64_w, i32_w]
            rfl
          refine one_ (i := 11) (N := some 24) #[true, true, true, true, true, true, true, true, true, true, true, true, false] rfl rfl (one_of HT_.out (by kernel_rfl)) (by decide) (fun K hK => ?_)
          refine Kd.R_append_step (Kd.int .i64) (w0 := w) w.heap.size (by rfl) (.tmp 13) (.tmp 23) 32 3 (.int .i64 0) 8 rfl Try.underlying32 info3 rfl (by decide) (by omega) u5 x5_1 (wrap64 (t203 - t204)) [.int .i64 (wrap64 (t203 - t204))] (fun _ => True) (fun _ => False) rfl rfl ?aP (fun _ hk => hk.elim) ?aF ?aO ?aB ?aS ?aL ?_
          (case aP => exact rfl)
          (case aB => exact (by repeat (first | (with_reducible first | exact HB.out | apply below_alloc | apply pw_below_drewN | apply below_drew1 | refine below_set ?_ GE202.out) | exact HB.out)))
          (case aF => exact (fun _ _ => trivial))
          (case aO => exact (by (with_reducible repeat (first | apply Kd.R_alloc | apply Kd.R_drewN | apply Kd.R_drew)); exact HO_5.out))
          (case aS => exact (below_size (by repeat (first | (with_reducible first | exact HB.out | apply below_alloc | apply pw_below_drewN | apply below_drew1 | refine below_set ?_ GE202.out) | exact HB.out))))
          (case aL => have := LMc8.out; omega)
          intro v206 w12 ho hb hg hat
          rw [← Ny205.out] at ho
          have n0_ := Aside0.mk (blk_grown (g := gb202) (o := .cells #[.int .i64 a0_0, .slice A0_1 l0_1.length c0_1] 47 (0, 0)) (by (with_reducible repeat (first | refine blk_drewN ?_ _ | refine blk_drew ?_ | refine blk_alloc ?_ _)); exact BK202.out) hg (Kd.R_ne HO_5.out BK202.out (by decide)))
          have n1_ := Aside0.mk (hb)
          have n2_ := Aside0.mk (ho)
          clear BK202
          clear HB
          clear HO_5
          have BK202 := n0_
          have HB := n1_
          have HO207 := n2_
          clear n0_ n1_ n2_
          clear ho hb hg hat
          refine hK.out _ _ ⟨(blk_cell BK202.out 0).trans rfl, (blk_cell BK202.out 1).trans rfl⟩ (fun hHeld => ?_)
          clear hK K
          refine norm_ (a' := ?_) ?_ ?_
          rotate_left
          · show Act.put _ (some 24) _ = _
            simp only [Act.put, List.setIfInBounds_toArray, List.set_cons_zero, List.set_cons_succ, i64_w, i32_w]
            rfl
          refine pure_ (i := 12) (N := some 5) (v := ?_) (a' := ?_) #[true, true, true, true, true, true, true, true, true, true, true, true, true] rfl rfl (any_of HT_.out (by kernel_rfl)) (fun _ _ _ h => h) (Or.inl ⟨by rfl, ?_⟩) ?_ ?_
          rotate_left
          · intro w'
            go_simp
            with_reducible rfl
          rotate_left
          · simp only [Act.put, List.setIfInBounds_toArray, List.set_cons_zero, List.set_cons_succ, i64_w, i32_w]
            rfl
          refine done_ (done_of HT_.out (by kernel_rfl)) ?_
          try go_wp2
          go_roundg k1
          case measure => have := HK1.out; omega
          case rel => exact ⟨(y205), (wrap64 (x10_1 + 1)), (by first | rfl | (simp; done) | (simp [*]; done)), H', ⟨by have := HK1.out; omega⟩, ⟨by (with_reducible repeat (first | apply Kd.R_alloc | apply Kd.R_drewN | apply Kd.R_drew)); exact HO207.out⟩, ⟨by (with_reducible repeat (first | refine blk_drewN ?_ _ | refine blk_drew ?_ | refine blk_alloc ?_ _)); exact BK202.out⟩, ⟨by repeat (first | (with_reducible first | exact HB.out | apply below_alloc | apply pw_below_drewN | apply below_drew1 | refine below_set ?_ GE202.out) | exact HB.out)⟩⟩
        · rw [if_neg c8] at H
          exact absurd H (by simp)
      · rw [if_neg c5] at H
        have c5b0 : decide (x10_1 < (l0_1.length : Int)) = false := decide_eq_false c5
        clear c5
        replace H := Option.bind_eq_some_iff.mp H
        obtain ⟨t208, A130, H⟩ := H
        replace H : ((slices_Compact_int_int.f t208).bind fun t209 => (some t209)) = some r := H
        have A13 := Aside0.mk A130
        clear A130
        replace H := Option.bind_eq_some_iff.mp H
        obtain ⟨t209, A140, H⟩ := H
        replace H : (some t209) = some r := H
        have A14 := Aside0.mk A140
        clear A140
        obtain rfl := Option.some.inj H
        obtain ⟨Ao15, co15, eo15⟩ := Kd.R_slice HO_5.out
        subst eo15
        go_wp2_with (first | ((with_reducible refine gate_callee (f := 42) rfl ?_); refine goesL_ (some 27) rfl rfl Try.func42 (by kernel_rfl) rfl #[.slice Ao15 x5_1.length co15] rfl (by (try simp only [List.map_toArray, List.map_cons, List.map_nil]); first | done | rfl | (simp only [List.length_drop, List.length_take]; rfl)) ?_; (with_reducible refine (slices_Sort_int_int.calls (fun k_ => some k_ = (.slice Ao15 x5_1.length co15 : Value).ownBlock) (.slice Ao15 x5_1.length co15) x5_1 t208 w _ ?side1 ?side2 A13.out).mono ?_); (case side1 => repeat (first | (with_reducible first | exact HB.out | apply below_alloc | apply pw_below_drewN | apply below_drew1 | refine below_set ?_ GE202.out) | exact HB.out)); (case side2 => exact Kd.R_tight rfl HO_5.out); rintro e w16 ⟨rfl, hy0, hb, hkp⟩; refine ⟨_, rfl, ?_⟩; have n0_ := Aside0.mk (Kd.R_reok rfl hy0 (fun k_ e_ => HO_5.out.1 k_ e_)); have n1_ := Aside0.mk (blk_kept (by (with_reducible repeat (first | refine blk_drewN ?_ _ | refine blk_drew ?_ | refine blk_alloc ?_ _)); exact BK202.out) hkp (fun hs_ => (fun e_ => (Kd.R_ne HO_5.out BK202.out (by decide)) e_) hs_)); have n2_ := Aside0.mk (hb); clear HO_5; clear BK202; clear HB; have HO_5 := n0_; have BK202 := n1_; have HB := n2_; clear n0_ n1_ n2_; (try clear hb); (try clear hkp); (try clear hy0)) | ((with_reducible refine gate_callee (f := 43) rfl ?_); refine goesL_ (some 29) rfl rfl Try.func43 (by kernel_rfl) rfl #[.slice Ao15 x5_1.length co15] rfl (by (try simp only [List.map_toArray, List.map_cons, List.map_nil]); first | done | rfl | (simp only [List.length_drop, List.length_take]; rfl)) ?_; (with_reducible refine (slices_Compact_int_int.calls (fun k_ => some k_ = (.slice Ao15 x5_1.length co15 : Value).ownBlock) (.slice Ao15 x5_1.length co15) t208 t209 w _ ?side1 ?side2 A14.out).mono ?_); (case side1 => repeat (first | (with_reducible first | exact HB.out | apply below_alloc | apply pw_below_drewN | apply below_drew1 | refine below_set ?_ GE202.out) | exact HB.out)); (case side2 => exact Kd.R_tight rfl HO_5.out); rintro e w17 ⟨v210, rfl, ho0, hb, hkp⟩; refine ⟨_, rfl, ?_⟩; have n0_ := Aside0.mk (blk_kept (by (with_reducible repeat (first | refine blk_drewN ?_ _ | refine blk_drew ?_ | refine blk_alloc ?_ _)); exact BK202.out) hkp (fun hs_ => (fun e_ => (Kd.R_ne HO_5.out BK202.out (by decide)) e_) hs_)); have n1_ := Aside0.mk (Kd.R_mono (ok' := fun k_ => True) ho0 (fun k_ hk_ => trivial)); have n2_ := Aside0.mk (hb); clear BK202; clear HB; clear HO_5; have BK202 := n0_; have HO211 := n1_; have HB := n2_; clear n0_ n1_ n2_; (try clear hb); (try clear hkp); (try clear ho0)))
        go_ret
        exact ⟨_, by first | rfl | (simp [errW_none, errW_some] <;> rfl) | (simp [*, errW_none, errW_some] <;> rfl), by (with_reducible repeat (first | apply Kd.R_alloc | apply Kd.R_drewN | apply Kd.R_drew)); exact HO211.out, by repeat (first | (with_reducible first | exact HB.out | apply below_alloc | apply pw_below_drewN | apply below_drew1 | refine below_set ?_ GE202.out) | exact HB.out)⟩

section
open Go.Shelf
attribute [local go_sem] Oper.semAt_some
/-- The sizes that come in one round: the slice, and what it reads as. -/
abbrev Sizes := Value × List Int
def sizesAt (sp : Nat → List Int) (pre : List Sizes) (x : Sizes) (W : World) : Prop :=
  x.2 = sp (pre.length + 1) ∧ ∃ A c, x.1 = .slice A x.2.length c ∧ x.2.length ≤ c ∧ Kd.C (Kd.int .i64) W A x.2.length x.2
set_option maxHeartbeats 2000000 in
set_option maxRecDepth 100000 in
theorem steps_iter (m : Nat) (n : Int) (A : Option Addr) (c : Nat) (t : List Int) (sp : Nat → List Int) (hsp : ∀ j : Nat, 1 ≤ j → j < t.length → ∃ k, even_scale_spans.f k n t j = some (sp j)) (hc : t.length ≤ c) (w0 : World) (hC : Kd.C (Kd.int .i64) w0 A t.length t) :
    Range.Iter Try.prog m 52 #[.agg #[.int .i64 n, .slice A t.length c]] #[] (fun (x : Sizes) => #[x.1]) Range.KeepsCells (fun pre x W => pre.length + 1 < t.length ∧ sizesAt sp pre x W) (fun xs => xs.length = t.length - 1) (fun pre => pre.length < t.length) w0 := by
  intro l J Jx W hW hJ hJx hY h0
  have hbig : t.length ≤ 9223372036854775807 := hC.2.1
  refine (callsIn_wide (n := m + 1)).1 ?_
  refine callsIn_of_wp Try.func52 rfl trivial ?_ rfl
  simp only [Try.ntmps52, List.size_toArray, List.length_cons, List.length_nil, Nat.reduceAdd, Nat.reduceSub, Array.replicate_succ, Array.replicate_zero, List.push_toArray, List.append_toArray, List.nil_append, List.cons_append]
  gi_wp2
  gi_loopw [4] (fun p wr => ∃ pre : List Sizes, p = .int .i64 ((pre.length : Int) + 1) ∧ pre.length + 1 ≤ max t.length 1 ∧ Aside0 (J pre wr) ∧ Aside0 (wr.heap[W.heap.size]? = some (.cells #[.int .i64 n, .slice A t.length c] 47 (0, 0))) ∧ Aside0 (Kd.C (Kd.int .i64) wr A t.length t)) (fun p _ => t.length + 1 - (intOf p).toNat)
  case atStart =>
    exact ⟨[], rfl, by simp; omega, ⟨hJ _ _ _ h0 ((Below.refl _ _).alloc (Nat.le_refl _) _)⟩, ⟨World.alloc_heap_new _ _⟩, ⟨Kd.C_below hC (hW.trans (((Below.refl _ _).alloc (Nat.le_refl _) _).mono hW.size))⟩⟩
  case round =>
    obtain ⟨pre, rfl, hlen, hJp, hbox, hCr⟩ := hrel
    have hcz0 : wr.cell? ⟨W.heap.size, 0, none⟩ = some (.int .i64 n) := (blk_cell hbox.out 0).trans rfl
    have hcz1 : wr.cell? ⟨W.heap.size, 1, none⟩ = some (.slice A t.length c) := (blk_cell hbox.out 1).trans rfl
    by_cases hlt : pre.length + 1 < t.length
    · obtain ⟨k, hk0⟩ := hsp (pre.length + 1) (by omega) hlt
      have hk := Aside0.mk (show even_scale_spans.f k n t ((pre.length : Int) + 1) = some (sp (pre.length + 1)) from hk0)
      have hlt' : decide (((pre.length : Int) + 1) < (t.length : Int)) = true := decide_eq_true (by omega)
      clear hk0
      gi_wp2_with (refine ⟨trivial, ?_⟩; gi_at_call 54; refine (callsIn_wide.2 (even_scale_spans.calls k n A c t _ (sp (pre.length + 1)) _ hCr.out hc hk.out)).mono ?_; rintro e w' ⟨v, rfl, hR0, hb0⟩; have hR := Aside0.mk hR0; have hb := Aside0.mk hb0; clear hR0 hb0; obtain ⟨A', c', hv0, hl0, hC0⟩ := Kd.R_reads hR.out; subst hv0; have hC' := Aside0.mk hC0; have hl' := Aside0.mk hl0; clear hC0 hl0; obtain ⟨fn, tmps, assign, body, hy, hRd0⟩ := hY pre (.slice A' (sp (pre.length + 1)).length c', sp (pre.length + 1)) w' (hJ _ _ _ hJp.out hb.out) ⟨hlt, rfl, A', c', rfl, hl'.out, hC'.out⟩; dsimp only at hy; have hRd := Aside0.mk hRd0; clear hRd0)
      have hbox' : Aside0 (w'.heap[W.heap.size]? = some (.cells #[.int .i64 n, .slice A t.length c] 47 (0, 0))) := ⟨(hb.out.block _ (Array.getElem?_eq_some_iff.1 hbox.out).1).trans hbox.out⟩
      have hCr' := Aside0.mk (Kd.C_below hCr.out hb.out)
      clear hy hcz0 hcz1
      refine hRd.out.mono ?_
      rintro e W3 (⟨rfl, hJ3, hk3⟩ | ⟨rfl, hJ3⟩)
      · have hJ3' := Aside0.mk hJ3
        have hbox3 := Aside0.mk (hk3.2 _ _ hbox'.out rfl)
        have hC3 := Aside0.mk (hk3.reads hCr'.out)
        clear hJ3 hk3
        gi_wp2
        go_roundw
        case rel => exact ⟨pre ++ [(.slice A' (sp (pre.length + 1)).length c', sp (pre.length + 1))], by simp, by simp; omega, hJ3', hbox3, hC3⟩
        case measure => simp [intOf]; omega
      · have hJ3' := Aside0.mk hJ3
        clear hJ3
        gi_wp2
        refine bodyPost_ret (results_none rfl _ _ _) rfl ?_
        exact ⟨⟨_, rfl⟩, .inr ⟨pre ++ [(.slice A' (sp (pre.length + 1)).length c', sp (pre.length + 1))], by simp; omega, hJ3'.out⟩⟩
    · gi_wp2
      go_end0
      exact ⟨⟨_, rfl⟩, .inl ⟨pre, by omega, hJp.out⟩⟩
end
/-- All sizes of spans, of j steps, of j + 1 steps, .. -/
def even_scale_steps.all (k : Nat) (n : Int) (t : List Int) : Nat → Nat → Option (List (List Int))
  | _, 0 => some []
  | j, d + 1 => (even_scale_spans.f k n t (j : Int)).bind fun z => (even_scale_steps.all k n t (j + 1) d).bind fun zs => some (z :: zs)
theorem even_scale_steps.all_at {k : Nat} {n : Int} {t : List Int} : ∀ {d j : Nat} {zs : List (List Int)}, even_scale_steps.all k n t j d = some zs → zs.length = d ∧ ∀ i, i < d → even_scale_spans.f k n t ((j + i : Nat) : Int) = some (zs.getD i [])
  | 0, _, zs, h => by
    obtain rfl := Option.some.inj h
    exact ⟨rfl, fun i hi => by omega⟩
  | d + 1, j, zs, h => by
    obtain ⟨z, h1, h⟩ := Option.bind_eq_some_iff.1 h
    obtain ⟨zs', h2, h⟩ := Option.bind_eq_some_iff.1 h
    obtain rfl := Option.some.inj h
    obtain ⟨hl, ha⟩ := even_scale_steps.all_at h2
    refine ⟨by simp [hl], fun i hi => ?_⟩
    cases i with
    | zero => simpa using h1
    | succ i =>
      have := ha i (by omega)
      rw [show j + (i + 1) = j + 1 + i by omega]
      simpa using this
/-- The greatest of these sizes is at most one above the least. -/
def even_scale_even.ok (z : List Int) : Bool := !decide (wrap64 (rd z ((z.length : Int) - 1) - rd z 0) > 1)
def even_scale_even.f (k : Nat) (a0_0 : Int) (l0_1 : List Int) : Option Bool :=
  (even_scale_steps.all k a0_0 l0_1 1 (l0_1.length - 1)).bind fun zs => if zs.all (fun z => decide (0 < z.length)) = true then some (zs.all even_scale_even.ok) else none
section
open Go.Shelf
attribute [local go_sem] Oper.semAt_some
set_option maxHeartbeats 4000000 in
set_option maxRecDepth 100000 in
theorem even_scale_even.calls (k : Nat) (a0_0 : Int) (A0_1 : Option Addr) (c0_1 : Nat) (l0_1 : List Int) (r : Bool) (w : World) (hr0_1 : Kd.C (Kd.int .i64) w A0_1 l0_1.length l0_1) (hc0_1 : l0_1.length ≤ c0_1) (h : even_scale_even.f k a0_0 l0_1 = some r) :
    Calls Try.prog 51 #[.agg #[.int .i64 a0_0, .slice A0_1 l0_1.length c0_1]] w fun e w' => e = .returned (.bool r) ∧ Below w.heap.size w w' := by
  obtain ⟨zs, hall, h⟩ := Option.bind_eq_some_iff.1 h
  by_cases hne : zs.all (fun z => decide (0 < z.length)) = true
  case neg => rw [if_neg hne] at h; cases h
  rw [if_pos hne] at h
  obtain rfl := Option.some.inj h
  obtain ⟨hzl, hz⟩ := even_scale_steps.all_at hall
  have hne' : ∀ i, i < zs.length → 0 < (zs.getD i []).length := fun i hi => by
    have := List.all_eq_true.1 hne _ (List.getElem_mem hi)
    rw [List.getD_eq_getElem?_getD, List.getElem?_eq_getElem hi]
    simpa using this
  refine (callsIn_wide (n := 3)).1 ?_
  refine callsIn_of_wp_marks Try.func51 rfl trivial ?_ rfl
  simp only [Try.ntmps51, List.size_toArray, List.length_cons, List.length_nil, Nat.reduceAdd, Nat.reduceSub, Array.replicate_succ, Array.replicate_zero, List.push_toArray, List.append_toArray, List.nil_append, List.cons_append]
  have Hz := Aside0.mk hz
  have Hne := Aside0.mk hne'
  have Hall := Aside0.mk hall
  have Hn := Aside0.mk hne
  have Hzl := Aside0.mk hzl
  have HC := Aside0.mk hr0_1
  clear hz hne' hall hne hzl h hr0_1
  gi_wp2
  refine Range.wp_range (gf := 52) (fst := #[.agg #[.int .i64 a0_0, .slice A0_1 l0_1.length c0_1]]) (lb := #[]) rfl (enters_of Try.func52 (by kernel_rfl) rfl)
    (steps_iter 1 a0_0 A0_1 c0_1 l0_1 (fun j => zs.getD (j - 1) []) ?hsp hc0_1 w HC.out) ?hb0 (fun h k => h.trans k) (fun h => .of_noted h) (fun _ => rfl)
    (fun pre W => pre.map (·.2) = zs.take pre.length ∧ (∀ x, x ∈ pre → even_scale_even.ok x.2 = true) ∧ W.heap[w.heap.size + 1]? = some (.cells #[.bool false] 4 (0, 0)) ∧ Below w.heap.size w W)
    (fun c pre W => c = .ret ∧ zs.all even_scale_even.ok = false ∧ W.heap[w.heap.size + 1]? = some (.cells #[.bool false] 4 (0, 0)) ∧ Below w.heap.size w W)
    (fun s A B h k => ⟨h.1, h.2.1, Range.block_below h.2.2.1 k, h.2.2.2.trans (k.mono h.2.2.2.size)⟩)
    (fun s A B h k => ⟨h.1, h.2.1, Range.block_noted h.2.2.1 (by simp) k, Range.below_noted h.2.2.2 (by simp; omega) (Nat.le_refl _) k⟩)
    (fun c s A B h k => ⟨h.1, h.2.1, Range.block_below h.2.2.1 k, h.2.2.2.trans (k.mono h.2.2.2.size)⟩)
    (fun c s A B h k => ⟨h.1, h.2.1, Range.block_noted h.2.2.1 (by simp) k, Range.below_noted h.2.2.2 (by simp; omega) (Nat.le_refl _) k⟩)
    ?h0 (fun x => { tmps := #[.agg #[.int .i64 a0_0, .slice A0_1 l0_1.length c0_1], .pointer (some ⟨w.heap.size, 0, none⟩), .pointer (some ⟨w.heap.size + 1, 0, none⟩), x.1, .agg #[.int .i64 a0_0, .slice A0_1 l0_1.length c0_1], .func (.func 52) #[.agg #[.int .i64 a0_0, .slice A0_1 l0_1.length c0_1]] #[], x.1, undef, undef, undef, undef, undef, undef, undef, undef, undef, undef, undef], defers := [] }) ?assign ?body ?done ?stop
  case hsp =>
    intro j h1 h2
    have := Hz.out (j - 1) (by have := Hzl.out; omega)
    exact ⟨k, by rw [show 1 + (j - 1) = j by omega] at this; exact this⟩
  case hb0 => exact ((Below.refl _ w).alloc (Nat.le_refl _) _).alloc (by simp) _
  case h0 =>
    refine ⟨rfl, fun x hx => by simp at hx, ?_, ((Below.refl _ w).alloc (Nat.le_refl _) _).alloc (by simp) _⟩
    have := World.alloc_heap_new (w.alloc (.cells #[.int .i64 a0_0, .slice A0_1 l0_1.length c0_1] 47)) (.cells #[.bool false] 4)
    rwa [World.size_alloc] at this
  case assign =>
    intro l x W K hK
    gi_wp2
    exact hK
  case body =>
    rintro l pre ⟨v, z⟩ W W' hi ⟨hlt, hx, A', c', hv, hlc, hC0⟩ hno ⟨hp, hok, hcell, hbel⟩
    dsimp only at hx hv hlc hC0
    subst hv
    have hC' := (Range.KeepsCells.of_noted hno).reads hC0
    have hpl : pre.length < zs.length := by have := Hzl.out; omega
    have hz0 : 0 < z.length := by rw [hx]; exact Hne.out _ (by simpa using hpl)
    obtain ⟨ad, had, hc0⟩ := Kd.at_int hC' 0 (by omega) (by omega)
    obtain ⟨ad', had', hc1⟩ := Kd.at_int hC' ((z.length : Int) - 1) (by omega) (by omega)
    subst had
    obtain rfl : ad = ad' := by injection had'
    have HI := Aside0.mk hi
    have HX := Aside0.mk hx
    have HN := Aside0.mk hno
    have HP := Aside0.mk hp
    have HO := Aside0.mk hok
    have HCell := Aside0.mk hcell
    have HBel := Aside0.mk hbel
    have hbig : z.length ≤ 9223372036854775807 := hC'.2.1
    clear hi hx hno hp hok hcell hbel hC' hC0 had'
    have hl1 : (0 : Int) ≤ (z.length : Int) - 1 := by omega
    have hl2 : (z.length : Int) - 1 < (z.length : Int) := by omega
    have hl3 : (0 : Int) < (z.length : Int) := by omega
    have hcell0 : W'.cell? ⟨w.heap.size + 1, 0, none⟩ = some (.bool false) := (blk_cell HCell.out 0).trans rfl
    have hfr0 : W'.frozen? ⟨w.heap.size + 1, 0, none⟩ = false := by simp [World.frozen?, HCell.out]
    have hc1' : W'.cell? (ad.add (z.length - 1)) = some (.int .i64 (rd z ((z.length : Int) - 1))) := by rw [show z.length - 1 = ((z.length : Int) - 1).toNat by omega]; exact hc1
    have hc0' : W'.cell? ad = some (.int .i64 (rd z 0)) := hc0
    have p1 : (0 ≤ (z.length : Int) - 1) = True := eq_true hl1
    have p2 : ((1 : Int) ≤ (z.length : Int)) = True := eq_true (by omega)
    have p3 : ((z.length : Int) - 1 < (z.length : Int)) = True := eq_true hl2
    have p4 : ((0 : Int) < (z.length : Int)) = True := eq_true hl3
    have p5 : (1 ≤ z.length) = True := eq_true (by omega)
    by_cases hg : wrap64 (rd z ((z.length : Int) - 1) - rd z 0) > 1
    · have hgb : decide (1 < wrap64 (rd z ((z.length : Int) - 1) - rd z 0)) = true := decide_eq_true hg
      gi_wp2
      have hw1 : IntKind.i64.wrap ((z.length : Int) - 1) = (z.length : Int) - 1 := by rw [i64_w]; unfold wrap64; omega
      refine Quiet.region_quiet rfl (by kernel_rfl) (by kernel_rfl) ?_
      repeat (gi_big_quiet_step (fail))
      refine wpQuietIn_nil ?_
      intro _ hw'
      obtain ⟨nq, hw''⟩ := hw'
      subst hw''
      clear hw1
      gi_wp2
      refine ⟨KeepsOthers.trans (B := W'.drewN nq) ⟨Nat.le_refl _, fun _ _ h _ => h⟩ (KeepsOthers.setCell _ _ _), rfl, ?_, ?_, ?_⟩
      · refine Bool.eq_false_iff.2 (fun h => ?_)
        have h1 := List.all_eq_true.1 h z (by rw [HX.out, List.getD_eq_getElem?_getD, List.getElem?_eq_getElem (by simpa using hpl)]; exact List.getElem_mem _)
        simp [even_scale_even.ok, hg] at h1
      · refine blk_put (cs := #[.bool false]) ?_ 0 _ rfl
        refine blk_drewN ?_ _
        exact HCell.out
      · exact below_set (pw_below_drewN HBel.out _) (by omega)
    · have hgb : decide (1 < wrap64 (rd z ((z.length : Int) - 1) - rd z 0)) = false := decide_eq_false hg
      gi_wp2
      have hw1 : IntKind.i64.wrap ((z.length : Int) - 1) = (z.length : Int) - 1 := by rw [i64_w]; unfold wrap64; omega
      refine Quiet.region_quiet rfl (by kernel_rfl) (by kernel_rfl) ?_
      repeat (gi_big_quiet_step (fail))
      refine wpQuietIn_nil ?_
      intro _ hw'
      obtain ⟨nq, hw''⟩ := hw'
      subst hw''
      clear hw1
      gi_wp2
      refine ⟨⟨Nat.le_refl _, fun _ _ h _ => h⟩, ⟨Nat.le_refl _, fun _ _ h _ => h⟩, ?_, ?_, HCell.out, pw_below_drewN HBel.out _⟩
      · have hlen : (pre ++ [((.slice (some ad) z.length c' : Value), z)]).length = pre.length + 1 := by simp
        rw [hlen, List.map_append, HP.out, List.take_succ_eq_append_getElem hpl]
        simp [HX.out, hpl]
      · intro x hx
        rcases List.mem_append.1 hx with hx | hx
        · exact HO.out x hx
        · rw [List.mem_singleton.1 hx]
          simp [even_scale_even.ok, hg]
  case done =>
    rintro D xs W hD hS ⟨hmap, hok, hcell, hbel⟩ hK
    have HOk := Aside0.mk hok
    have HMap := Aside0.mk hmap
    have HBel := Aside0.mk hbel
    have HCell := Aside0.mk hcell
    have HK := Aside0.mk hK
    have hcell0 : W.cell? ⟨w.heap.size + 1, 0, none⟩ = some (.bool false) := (blk_cell hcell 0).trans rfl
    have hfr0 : W.frozen? ⟨w.heap.size + 1, 0, none⟩ = false := by simp [World.frozen?, hcell]
    clear hmap hok hbel hcell hK
    gi_wp2
    have hne : D ≠ w.heap.size + 1 := by intro e; rw [e, HCell.out] at HK; cases HK.out
    have hK' : (W.setCell ⟨w.heap.size + 1, 0, none⟩ (.bool true)).heap[D]? = some (.deferred (some [])) := (Below.heap_setCell W ⟨w.heap.size + 1, 0, none⟩ _ D hne).trans HK.out
    have hb2 : (W.setCell ⟨w.heap.size + 1, 0, none⟩ (.bool true)).heap[w.heap.size + 1]? = some (.cells #[.bool true] 4 (0, 0)) := blk_put (cs := #[.bool false]) HCell.out 0 _ rfl
    refine ⟨by simp, .inl ⟨_, _, rfl, run_takeDeferred hK', ?_⟩⟩
    have hb3 : ((W.setCell ⟨w.heap.size + 1, 0, none⟩ (.bool true)).putObj D (.deferred none)).heap[w.heap.size + 1]? = some (.cells #[.bool true] 4 (0, 0)) := (World.putObj_heap_other (Ne.symm hne)).trans hb2
    have hc3 := (blk_cell hb3 0).trans rfl
    have hall' : zs.all even_scale_even.ok = true := by
      refine List.all_eq_true.2 (fun z hz => ?_)
      have h1 : xs.map (·.2) = zs := by
        rw [HMap.out, List.take_of_length_le (by have := Hzl.out; omega)]
      rw [← h1] at hz
      obtain ⟨x, hx, rfl⟩ := List.mem_map.1 hz
      exact HOk.out x hx
    refine ⟨.bool true, by simp [results, Try.results51, go_sem, hc3], by rw [hall'], ?_⟩
    exact (below_set HBel.out (by omega)).grown (grownBy_putObj' _ D _) (by have := HBel.out.size; simpa [World.setCell] using this) (fun k e => by cases e; simp at hD; omega)
  case stop =>
    rintro D c pre W hD hS ⟨rfl, hno, hcell, hbel⟩ hK
    have hne : D ≠ w.heap.size + 1 := by intro e; rw [e, hcell] at hK; cases hK
    have hb3 : (W.putObj D (.deferred none)).heap[w.heap.size + 1]? = some (.cells #[.bool false] 4 (0, 0)) := (World.putObj_heap_other (Ne.symm hne)).trans hcell
    have hc3 := (blk_cell hb3 0).trans rfl
    have HBel := Aside0.mk hbel
    have HNo := Aside0.mk hno
    have HK := Aside0.mk hK
    clear hbel hno hK hcell
    gi_wp2
    refine ⟨by simp, .inl ⟨_, _, rfl, run_takeDeferred HK.out, ?_⟩⟩
    refine ⟨.bool false, by simp [results, Try.results51, go_sem, hc3], by rw [HNo.out], ?_⟩
    exact HBel.out.grown (grownBy_putObj' _ D _) HBel.out.size (fun k e => by cases e; simp at hD; omega)
end
def even_Even.f (k : Nat) (a0 : Int) (a1 : Int) : Option (Bool × Int) := (even_read.f k a0 a1).bind fun bt212 => (if bt212.2.2 = true then ((even_scale_even.f k bt212.1 bt212.2.1).bind fun t218 => (some (t218, 0))) else (some (false, 2)))
set_option maxHeartbeats 8000000 in
set_option maxRecDepth 100000 in
theorem even_Even.calls (k : Nat) (a0 : Int) (a1 : Int) (r1 : Bool) (r2 : Int) (w : World) (h : even_Even.f k a0 a1 = some (r1, r2)) :
    Calls Try.prog 27 #[.int .i64 a0, .int .i64 a1] w fun e w' => e = .returned (.tuple #[.bool r1, .int .i64 r2]) ∧ Below w.heap.size w w' := by
  have hu47 := Try.underlying47
  have HB := Aside0.mk (Below.refl w.heap.size w)
  have H : ((even_read.f k a0 a1).bind fun bt212 => (if bt212.2.2 = true then ((even_scale_even.f k bt212.1 bt212.2.1).bind fun t218 => (some (t218, 0))) else (some (false, 2)))) = some (r1, r2) := h
  clear h
  replace H := Option.bind_eq_some_iff.mp H
  obtain ⟨⟨t212, t213, t216⟩, A30, H⟩ := H
  replace H : (if t216 = true then ((even_scale_even.f k t212 t213).bind fun t218 => (some (t218, 0))) else (some (false, 2))) = some (r1, r2) := H
  have A3 := Aside0.mk A30
  clear A30
  by_cases c4 : t216 = true
  · subst c4
    have H1 : ((even_scale_even.f k t212 t213).bind fun t218 => (some (t218, 0))) = some (r1, r2) := by rw [if_pos rfl] at H; exact H
    clear H
    have H := H1
    clear H1
    replace H := Option.bind_eq_some_iff.mp H
    obtain ⟨t218, A50, H⟩ := H
    replace H : (some (t218, 0)) = some (r1, r2) := H
    have A5 := Aside0.mk A50
    clear A50
    simp only [Option.some.injEq, Prod.mk.injEq] at H
    obtain ⟨rfl, rfl⟩ := H
    go_enter Try.func27, Try.ntmps27
    go_wp2_with (first | ((with_reducible refine gate_callee (f := 45) rfl ?_); refine goesL_ (some 11) rfl rfl Try.func45 (by kernel_rfl) rfl #[.int .i64 a0, .int .i64 a1] rfl (by (try simp only [List.map_toArray, List.map_cons, List.map_nil]); first | done | rfl | (simp only [List.length_drop, List.length_take]; rfl)) ?_; (with_reducible refine (even_read.calls k a0 a1 t212 t213 true _ A3.out).mono ?_); rintro e w6 ⟨v214, rfl, ho0, hb⟩; refine ⟨_, rfl, ?_⟩; have n0_ := Aside0.mk (Kd.R_lower ho0 (below_size (by repeat (first | (with_reducible first | exact HB.out | apply below_alloc | apply pw_below_drewN | apply below_drew1) | exact HB.out)))); have n1_ := Aside0.mk (below_step (by repeat (first | (with_reducible first | exact HB.out | apply below_alloc | apply pw_below_drewN | apply below_drew1) | exact HB.out)) hb); clear HB; have HO215 := n0_; have HB := n1_; clear n0_ n1_; (try clear hb); (try clear hb2); (try clear hk); (try clear hi); (try clear ho0)) | ((with_reducible refine gate_dst (N := 6) rfl ?_); refine box_event ?hg (N := 6) ?hd (cs := #[.int .i64 0, .slice none 0 0]) (t := 47) ?hr ?_; (case hd => rfl); (case hg => rfl); (case hr => first | (go_simp; done) | (go_simp; rfl)); intro gb217 hg w7 hbox hb; have n0_ := Aside0.mk (Kd.R_below (by (with_reducible repeat (first | apply Kd.R_alloc | apply Kd.R_drewN | apply Kd.R_drew)); exact HO215.out) hb); have n1_ := Aside0.mk (below_step (by repeat (first | (with_reducible first | exact HB.out | apply below_alloc | apply pw_below_drewN | apply below_drew1) | exact HB.out)) hb); have n2_ := Aside0.mk (hbox); have n3_ := Aside0.mk ((by rw [hg]; exact (below_size (by repeat (first | (with_reducible first | exact HB.out | apply below_alloc | apply pw_below_drewN | apply below_drew1) | exact HB.out))) : w.heap.size ≤ gb217)); have n4_ := Aside0.mk ((by rw [hg]; exact (below_size (by repeat (first | (with_reducible first | exact HB.out | apply below_alloc | apply pw_below_drewN | apply below_drew1) | exact HB.out))) : w.heap.size ≤ gb217)); clear HO215; clear HB; have HO215 := n0_; have HB := n1_; have BK217 := n2_; have GW217 := n3_; have GE217 := n4_; clear n0_ n1_ n2_ n3_ n4_; clear hb hbox hg; have hcz8_0 : w7.cell? ⟨gb217, 0, none⟩ = some (.int .i64 0) := (blk_cell BK217.out 0).trans rfl; have hcz8_1 : w7.cell? ⟨gb217, 1, none⟩ = some (.slice none 0 0) := (blk_cell BK217.out 1).trans rfl; have hfz8_0 := blk_frozen BK217.out 0; have hfz8_1 := blk_frozen BK217.out 1; obtain ⟨Ao9, co9, eo9⟩ := Kd.R_slice HO215.out; subst eo9) | ((with_reducible refine gate_callee (f := 51) rfl ?_); refine goesL_ (some 17) rfl rfl Try.func51 (by kernel_rfl) rfl #[.agg #[.int .i64 t212, .slice Ao9 t213.length co9]] rfl (by (try simp only [List.map_toArray, List.map_cons, List.map_nil]); first | done | rfl | (simp only [List.length_drop, List.length_take]; rfl)) ?_; (with_reducible refine (even_scale_even.calls k t212 _ _ t213 t218 _ ?side1 ?side2 A5.out).mono ?_); (case side1 => refine (Kd.R_reads' (e := 3) (base := w.heap.size) (ok := fun k_ => True) (n := t213.length) (c := co9) ?_).2.2; exact (by (with_reducible repeat (first | apply Kd.R_alloc | apply Kd.R_drewN | apply Kd.R_drew)); exact (Kd.R_mono (Kd.R_far (p := ⟨gb217, 1, none⟩) (Kd.R_far (p := ⟨gb217, 0, none⟩) (Kd.R_types HO215.out BK217.out (by decide)) (fun _ hk => hk.2) (.int .i64 t212)) (fun _ hk => hk.2) (.slice Ao9 t213.length co9)) (fun _ h_ => h_.1)))); (case side2 => exact (Kd.R_reads' HO215.out).2.1); rintro e w10 ⟨rfl, hb⟩; refine ⟨_, rfl, ?_⟩; have n0_ := Aside0.mk (Kd.R_below (by (with_reducible repeat (first | apply Kd.R_alloc | apply Kd.R_drewN | apply Kd.R_drew)); exact (Kd.R_mono (Kd.R_far (p := ⟨gb217, 1, none⟩) (Kd.R_far (p := ⟨gb217, 0, none⟩) (Kd.R_types HO215.out BK217.out (by decide)) (fun _ hk => hk.2) (.int .i64 t212)) (fun _ hk => hk.2) (.slice Ao9 t213.length co9)) (fun _ h_ => h_.1))) hb); have n1_ := Aside0.mk (blk_below (g := gb217) (o := .cells #[.int .i64 t212, .slice Ao9 t213.length co9] 47 (0, 0)) (by (with_reducible repeat (first | refine blk_drewN ?_ _ | refine blk_drew ?_ | refine blk_alloc ?_ _)); refine blk_put (cs := #[.int .i64 t212, .slice none 0 0]) ?_ 1 _ rfl; (with_reducible repeat (first | refine blk_drewN ?_ _ | refine blk_drew ?_ | refine blk_alloc ?_ _)); refine blk_put (cs := #[.int .i64 0, .slice none 0 0]) ?_ 0 _ rfl; (with_reducible repeat (first | refine blk_drewN ?_ _ | refine blk_drew ?_ | refine blk_alloc ?_ _)); exact BK217.out) hb); have n2_ := Aside0.mk (below_step (by repeat (first | (with_reducible first | exact HB.out | apply below_alloc | apply pw_below_drewN | apply below_drew1 | refine below_set ?_ GE217.out) | exact HB.out)) hb); clear HO215; clear BK217; clear HB; have HO215 := n0_; have BK217 := n1_; have HB := n2_; clear n0_ n1_ n2_; (try clear hb); (try clear hb2); (try clear hk); (try clear hi)))
    go_ret2
    exact ⟨by first | rfl | (simp [errW_none, errW_some] <;> rfl) | (simp [*, errW_none, errW_some] <;> rfl), by repeat (first | (with_reducible first | exact HB.out | apply below_alloc | apply pw_below_drewN | apply below_drew1 | refine below_set ?_ GE217.out) | exact HB.out)⟩
  · replace c4 := Bool.eq_false_iff.mpr c4
    subst c4
    have H1 : (some (false, 2)) = some (r1, r2) := by rw [if_neg (show ¬ (false = true) by decide)] at H; exact H
    clear H
    have H := H1
    clear H1
    simp only [Option.some.injEq, Prod.mk.injEq] at H
    obtain ⟨rfl, rfl⟩ := H
    go_enter Try.func27, Try.ntmps27
    go_wp2_with (first | ((with_reducible refine gate_callee (f := 45) rfl ?_); refine goesL_ (some 11) rfl rfl Try.func45 (by kernel_rfl) rfl #[.int .i64 a0, .int .i64 a1] rfl (by (try simp only [List.map_toArray, List.map_cons, List.map_nil]); first | done | rfl | (simp only [List.length_drop, List.length_take]; rfl)) ?_; (with_reducible refine (even_read.calls k a0 a1 t212 t213 false _ A3.out).mono ?_); rintro e w11 ⟨v214, rfl, ho0, hb⟩; refine ⟨_, rfl, ?_⟩; have n0_ := Aside0.mk (Kd.R_lower ho0 (below_size (by repeat (first | (with_reducible first | exact HB.out | apply below_alloc | apply pw_below_drewN | apply below_drew1) | exact HB.out)))); have n1_ := Aside0.mk (below_step (by repeat (first | (with_reducible first | exact HB.out | apply below_alloc | apply pw_below_drewN | apply below_drew1) | exact HB.out)) hb); clear HB; have HO215 := n0_; have HB := n1_; clear n0_ n1_; (try clear hb); (try clear hb2); (try clear hk); (try clear hi); (try clear ho0)) | ((with_reducible refine gate_dst (N := 6) rfl ?_); refine box_event ?hg (N := 6) ?hd (cs := #[.int .i64 0, .slice none 0 0]) (t := 47) ?hr ?_; (case hd => rfl); (case hg => rfl); (case hr => first | (go_simp; done) | (go_simp; rfl)); intro gb217 hg w12 hbox hb; have n0_ := Aside0.mk (Kd.R_below (by (with_reducible repeat (first | apply Kd.R_alloc | apply Kd.R_drewN | apply Kd.R_drew)); exact HO215.out) hb); have n1_ := Aside0.mk (below_step (by repeat (first | (with_reducible first | exact HB.out | apply below_alloc | apply pw_below_drewN | apply below_drew1) | exact HB.out)) hb); have n2_ := Aside0.mk (hbox); have n3_ := Aside0.mk ((by rw [hg]; exact (below_size (by repeat (first | (with_reducible first | exact HB.out | apply below_alloc | apply pw_below_drewN | apply below_drew1) | exact HB.out))) : w.heap.size ≤ gb217)); have n4_ := Aside0.mk ((by rw [hg]; exact (below_size (by repeat (first | (with_reducible first | exact HB.out | apply below_alloc | apply pw_below_drewN | apply below_drew1) | exact HB.out))) : w.heap.size ≤ gb217)); clear HO215; clear HB; have HO215 := n0_; have HB := n1_; have BK217 := n2_; have GW217 := n3_; have GE217 := n4_; clear n0_ n1_ n2_ n3_ n4_; clear hb hbox hg; have hcz13_0 : w12.cell? ⟨gb217, 0, none⟩ = some (.int .i64 0) := (blk_cell BK217.out 0).trans rfl; have hcz13_1 : w12.cell? ⟨gb217, 1, none⟩ = some (.slice none 0 0) := (blk_cell BK217.out 1).trans rfl; have hfz13_0 := blk_frozen BK217.out 0; have hfz13_1 := blk_frozen BK217.out 1; obtain ⟨Ao14, co14, eo14⟩ := Kd.R_slice HO215.out; subst eo14))
    go_ret2
    exact ⟨by first | rfl | (simp [errW_none, errW_some] <;> rfl) | (simp [*, errW_none, errW_some] <;> rfl), by repeat (first | (with_reducible first | exact HB.out | apply below_alloc | apply pw_below_drewN | apply below_drew1 | refine below_set ?_ GE217.out) | exact HB.out)⟩

end Go.Proofs.Ythbcdmbicfmeaaa.P
end

section
namespace Go.Proofs.Ythbcdmbicfmeaaa.P
open Go.RowKit Go.Proofs.YthbcdmbicfmeaaaW.PrintWords Go.Proofs.YthbcdmbicfmeaaaW.PrintLast Go.Proofs.YthbcdmbicfmeaaaW.PrintMore
attribute [local go_sem] max2_int min2_int max_two min_two max_three min_three max_four min_four   -- for this text's walks alone
set_option linter.unusedVariables false
set_option linter.unusedSimpArgs false
end Go.Proofs.Ythbcdmbicfmeaaa.P
end

section
namespace Go.Proofs.Ythbcdmbicfmeaaa.P
open Go.RowKit Go.Proofs.YthbcdmbicfmeaaaW.PrintWords Go.Proofs.YthbcdmbicfmeaaaW.PrintLast Go.Proofs.YthbcdmbicfmeaaaW.PrintMore
attribute [local go_sem] max2_int min2_int max_two min_two max_three min_three max_four min_four   -- for this text's walks alone
set_option linter.unusedVariables false
set_option linter.unusedSimpArgs false
def even_Two.ok (z : List Int) : Bool := z.length == 2
section
open Go.Shelf
attribute [local go_sem] Oper.semAt_some
end
end Go.Proofs.Ythbcdmbicfmeaaa.P
end

section
namespace Go.Proofs.Ythbcdmbicfmeaaa.P
open Go.RowKit Go.Proofs.YthbcdmbicfmeaaaW.PrintWords Go.Proofs.YthbcdmbicfmeaaaW.PrintLast Go.Proofs.YthbcdmbicfmeaaaW.PrintMore
attribute [local go_sem] max2_int min2_int max_two min_two max_three min_three max_four min_four   -- for this text's walks alone
set_option linter.unusedVariables false
set_option linter.unusedSimpArgs false
end Go.Proofs.Ythbcdmbicfmeaaa.P
end

section
namespace Go.Proofs.Ythbcdmbicfmeaaa.P
open Go.RowKit Go.Proofs.YthbcdmbicfmeaaaW.PrintWords Go.Proofs.YthbcdmbicfmeaaaW.PrintLast Go.Proofs.YthbcdmbicfmeaaaW.PrintMore
attribute [local go_sem] max2_int min2_int max_two min_two max_three min_three max_four min_four   -- for this text's walks alone
set_option linter.unusedVariables false
set_option linter.unusedSimpArgs false
end Go.Proofs.Ythbcdmbicfmeaaa.P
end
