/- Texts that the proof of TriadsSizes needs, put together in build order by this session's program (wip/tools/claimtrim.py). -/
import Derived.Test.YtpaeobpmkdekfaaDoorTriadsSizesM2
import Derived.Test.YtpaeobpmkdekfaaDoorTriadsSizesM7
import Derived.Test.YtpaeobpmkdekfaaDoorTriadsSizesM10
import Derived.Test.YtpaeobpmkdekfaaDoorTriadsSizesM12
import Derived.Test.YtpaeobpmkdekfaaDoorTriadsSizesM16
import Derived.Test.YtpaeobpmkdekfaaDoorTriadsSizesM14
import Derived.Test.YtpaeobpmkdekfaaDoorTriadsSizesM17
import Derived.Test.YtpaeobpmkdekfaaDoorTriadsSizesM18
section
namespace Go.Proofs.YtpaeobpmkdekfaaDoor.P
open Go.RowKit Go.Proofs.YtpaeobpmkdekfaaDoorW.PrintWords Go.Proofs.YtpaeobpmkdekfaaDoorW.PrintLast Go.Proofs.YtpaeobpmkdekfaaDoorW.PrintMore
attribute [local go_sem] max2_int min2_int max_two min_two max_three min_three max_four min_four   -- for this text's walks alone
set_option linter.unusedVariables false
set_option linter.unusedSimpArgs false
mutual
def sackbutlaw04_TriadsSizes.j0 : Nat → Int → Int → ByteArray → Int → Int → Bool → Int → Int → Int → Option (Bool)
  | 0, _, _, _, _, _, _, _, _, _ => none
  | k + 1, x1, x2, x3, x9, x10, x31, x544000, x544001, x544002 => if x31 = true then (if x10 = 0 then ((sackbutlaw04_awake.f).bind fun t553 => (some t553)) else (if x10 = 2 then ((sackbutlaw04_awake.f).bind fun t554 => (some t554)) else (some false))) else ((sackbutlaw04_Of.f x544000 x544001 x544002).bind fun bt555 => ((triads_Round.f bt555.1 bt555.2.1 bt555.2.2 0 (⟨#[80, 76, 82]⟩ : ByteArray)).bind fun bt558 => (if bt558.2 = 0 then (if x9 < 1 then (sackbutlaw04_TriadsSizes.j1 k x1 x2 x3 x9 true x544000 x544001 x544002) else (if (bt558.1.length : Int) = x9 then (if x9 = 0 then (none) else (sackbutlaw04_TriadsSizes.j1 k x1 x2 x3 x9 ((Int.tmod (wrap64 (2 * x544000)) x9) != 0) x544000 x544001 x544002)) else (sackbutlaw04_TriadsSizes.j1 k x1 x2 x3 x9 true x544000 x544001 x544002))) else (sackbutlaw04_TriadsSizes.j1 k x1 x2 x3 x9 true x544000 x544001 x544002))))
def sackbutlaw04_TriadsSizes.j1 : Nat → Int → Int → ByteArray → Int → Bool → Int → Int → Int → Option (Bool)
  | 0, _, _, _, _, _, _, _, _ => none
  | k + 1, x1, x2, x3, x9, x66, x544000, x544001, x544002 => if x66 = true then (some false) else ((sackbutlaw04_Of.f x544000 x544001 x544002).bind fun bt562 => ((triads_Way.f bt562.1 bt562.2.1 bt562.2.2 x1 x2).bind fun bt565 => (if bt565.2 = 0 then ((sackbutlaw04_Of.f x544000 x544001 x544002).bind fun bt568 => ((triads_Walk.f bt568.1 bt568.2.1 bt568.2.2 x1 bt565.1).bind fun bt571 => (if bt571.2 = 0 then (sackbutlaw04_TriadsSizes.j2 k x1 x2 x3 bt565.1 (bt571.1 != x2) x544000 x544001 x544002) else (sackbutlaw04_TriadsSizes.j2 k x1 x2 x3 bt565.1 true x544000 x544001 x544002)))) else (if bt565.2 = 4 then (if x9 < (wrap64 (2 * x544000)) then ((sackbutlaw04_awake.f).bind fun t567 => (some t567)) else (some false)) else (some false)))))
def sackbutlaw04_TriadsSizes.j2 : Nat → Int → Int → ByteArray → ByteArray → Bool → Int → Int → Int → Option (Bool)
  | 0, _, _, _, _, _, _, _, _ => none
  | k + 1, x1, x2, x3, x12, x103, x544000, x544001, x544002 => if x103 = true then (some false) else ((sackbutlaw04_Of.f x544000 x544001 x544002).bind fun bt573 => ((sackbutlaw04_text.f x3).bind fun t576 => ((triads_Walk.f bt573.1 bt573.2.1 bt573.2.2 x1 t576).bind fun bt577 => (if bt577.2 = 0 then (sackbutlaw04_TriadsSizes.j3 k x3 bt577.2 x12 (bt577.1 != x2) x544000 x544001 x544002) else (sackbutlaw04_TriadsSizes.j3 k x3 bt577.2 x12 true x544000 x544001 x544002)))))
def sackbutlaw04_TriadsSizes.j3 : Nat → ByteArray → Int → ByteArray → Bool → Int → Int → Int → Option (Bool)
  | 0, _, _, _, _, _, _, _ => none
  | k + 1, x3, x10, x12, x119, x544000, x544001, x544002 => if x119 = true then (if x10 = 0 then ((sackbutlaw04_awake.f).bind fun t579 => (some t579)) else (if x10 = 3 then ((sackbutlaw04_awake.f).bind fun t580 => (some t580)) else (some false))) else ((sackbutlaw04_Of.f x544000 x544001 x544002).bind fun bt581 => ((triads_Alike.f bt581.1 bt581.2.1 bt581.2.2 x12 x3).bind fun bt584 => (if bt584.1 = true then (if bt584.2 = 0 then (if (x12.size : Int) ≤ (x3.size : Int) then (if (x12.size : Int) < (x3.size : Int) then ((sackbutlaw04_awake.f).bind fun t586 => (some t586)) else (if ((Op.bytesLess x3.toList x12.toList) = true) then (some false) else ((sackbutlaw04_awake.f).bind fun t587 => (some t587)))) else (some false)) else (some false)) else (some false))))
end
def sackbutlaw04_TriadsSizes.f (k : Nat) (a0_0 : Int) (a0_1 : Int) (a0_2 : Int) (a1 : Int) (a2 : Int) (a3 : ByteArray) : Option (Bool) := (sackbutlaw04_Of.f a0_0 a0_1 a0_2).bind fun bt544 => ((triads_Size.f bt544.1 bt544.2.1 bt544.2.2).bind fun bt547 => (if bt547.2 = 0 then ((sackbutlaw04_fine.f k a0_0 a0_1 a0_2 (([a1, a2] : List Int))).bind fun t552 => (sackbutlaw04_TriadsSizes.j0 k a1 a2 a3 bt547.1 bt547.2 (!t552) a0_0 a0_1 a0_2)) else (sackbutlaw04_TriadsSizes.j0 k a1 a2 a3 bt547.1 bt547.2 true a0_0 a0_1 a0_2)))
set_option maxHeartbeats 8000000 in
set_option maxRecDepth 100000 in
theorem sackbutlaw04_TriadsSizes.calls (k : Nat) (a0_0 : Int) (a0_1 : Int) (a0_2 : Int) (a1 : Int) (a2 : Int) (a3 : ByteArray) (r : Bool) (w : World) (h : sackbutlaw04_TriadsSizes.f k a0_0 a0_1 a0_2 a1 a2 a3 = some r) :
    Calls Tryd.prog 15 #[.agg #[.int .i64 a0_0, .int .i64 a0_1, .int .i64 a0_2], .int .i64 a1, .int .i64 a2, .string a3] w fun e w' => e = .returned (.bool r) ∧ Below w.heap.size w w' := by
  have hu23 := Tryd.underlying23
  have HB := Aside0.mk (Below.refl w.heap.size w)
  have H : ((sackbutlaw04_Of.f a0_0 a0_1 a0_2).bind fun bt544 => ((triads_Size.f bt544.1 bt544.2.1 bt544.2.2).bind fun bt547 => (if bt547.2 = 0 then ((sackbutlaw04_fine.f k a0_0 a0_1 a0_2 (([a1, a2] : List Int))).bind fun t552 => (sackbutlaw04_TriadsSizes.j0 k a1 a2 a3 bt547.1 bt547.2 (!t552) a0_0 a0_1 a0_2)) else (sackbutlaw04_TriadsSizes.j0 k a1 a2 a3 bt547.1 bt547.2 true a0_0 a0_1 a0_2)))) = some r := h
  clear h
  replace H := Option.bind_eq_some_iff.mp H
  obtain ⟨⟨t544, t545, t546⟩, A50, H⟩ := H
  replace H : ((triads_Size.f t544 t545 t546).bind fun bt547 => (if bt547.2 = 0 then ((sackbutlaw04_fine.f k a0_0 a0_1 a0_2 (([a1, a2] : List Int))).bind fun t552 => (sackbutlaw04_TriadsSizes.j0 k a1 a2 a3 bt547.1 bt547.2 (!t552) a0_0 a0_1 a0_2)) else (sackbutlaw04_TriadsSizes.j0 k a1 a2 a3 bt547.1 bt547.2 true a0_0 a0_1 a0_2))) = some r := H
  have A5 := Aside0.mk A50
  clear A50
  replace H := Option.bind_eq_some_iff.mp H
  obtain ⟨⟨t547, t548⟩, A60, H⟩ := H
  replace H : (if t548 = 0 then ((sackbutlaw04_fine.f k a0_0 a0_1 a0_2 (([a1, a2] : List Int))).bind fun t552 => (sackbutlaw04_TriadsSizes.j0 k a1 a2 a3 t547 t548 (!t552) a0_0 a0_1 a0_2)) else (sackbutlaw04_TriadsSizes.j0 k a1 a2 a3 t547 t548 true a0_0 a0_1 a0_2)) = some r := H
  have A6 := Aside0.mk A60
  clear A60
  have HC7 := Aside0.mk H
  clear H
  go_enter Tryd.func15, Tryd.ntmps15
  go_upto_region 2 with (first | ((with_reducible refine gate_dst (N := 4) rfl ?_); (try (refine gate_guard (by rfl) ?_; dsimp only)); refine box_event ?hg (N := 4) ?hd (cs := #[.int .i64 a0_0, .int .i64 a0_1, .int .i64 a0_2]) (t := 23) ?hr ?_; (case hd => rfl); (case hg => rfl); (case hr => first | (go_simp; done) | (go_simp; rfl)); intro gb543 hg w8 hbox hb; have n0_ := Aside0.mk (below_step (by repeat (first | (with_reducible first | exact HB.out | apply below_alloc | apply pw_below_drewN | apply below_drew1) | exact HB.out)) hb); have n1_ := Aside0.mk (hbox); have n2_ := Aside0.mk ((by rw [hg]; exact (below_size (by repeat (first | (with_reducible first | exact HB.out | apply below_alloc | apply pw_below_drewN | apply below_drew1) | exact HB.out))) : w.heap.size ≤ gb543)); have n3_ := Aside0.mk ((by rw [hg]; exact (below_size (by repeat (first | (with_reducible first | exact HB.out | apply below_alloc | apply pw_below_drewN | apply below_drew1) | exact HB.out))) : w.heap.size ≤ gb543)); clear HB; have HB := n0_; have BK543 := n1_; have GW543 := n2_; have GE543 := n3_; clear n0_ n1_ n2_ n3_; clear hb hbox hg; have hcz9_0 : w8.cell? ⟨gb543, 0, none⟩ = some (.int .i64 a0_0) := (blk_cell BK543.out 0).trans rfl; have hcz9_1 : w8.cell? ⟨gb543, 1, none⟩ = some (.int .i64 a0_1) := (blk_cell BK543.out 1).trans rfl; have hcz9_2 : w8.cell? ⟨gb543, 2, none⟩ = some (.int .i64 a0_2) := (blk_cell BK543.out 2).trans rfl; have hfz9_0 := blk_frozen BK543.out 0; have hfz9_1 := blk_frozen BK543.out 1; have hfz9_2 := blk_frozen BK543.out 2) | ((with_reducible refine gate_callee (f := 17) rfl ?_); refine goesL_ (some 18) rfl rfl Tryd.func17 (by kernel_rfl) rfl #[.agg #[.int .i64 a0_0, .int .i64 a0_1, .int .i64 a0_2]] rfl (by (try simp only [List.map_toArray, List.map_cons, List.map_nil]); first | done | rfl | (simp only [List.length_drop, List.length_take]; rfl)) ?_; (with_reducible refine (sackbutlaw04_Of.calls a0_0 a0_1 a0_2 t544 t545 t546 _ A5.out).mono ?_); rintro e w10 ⟨rfl, hb⟩; refine ⟨_, rfl, ?_⟩; have n0_ := Aside0.mk (blk_below (g := gb543) (o := .cells #[.int .i64 a0_0, .int .i64 a0_1, .int .i64 a0_2] 23 (0, 0)) (by (with_reducible repeat (first | refine blk_drewN ?_ _ | refine blk_drew ?_ | refine blk_alloc ?_ _)); exact BK543.out) hb); have n1_ := Aside0.mk (below_step (by repeat (first | (with_reducible first | exact HB.out | apply below_alloc | apply pw_below_drewN | apply below_drew1 | refine below_set ?_ GE543.out) | exact HB.out)) hb); clear BK543; clear HB; have BK543 := n0_; have HB := n1_; clear n0_ n1_; (try clear hb); (try clear hb2); (try clear hk); (try clear hi)) | ((with_reducible refine gate_callee (f := 35) rfl ?_); refine goesL_ (some 19) rfl rfl Tryd.func35 (by kernel_rfl) rfl #[.agg #[.int .i64 t544, .int .i64 t545, .int .i64 t546]] rfl (by (try simp only [List.map_toArray, List.map_cons, List.map_nil]); first | done | rfl | (simp only [List.length_drop, List.length_take]; rfl)) ?_; (with_reducible refine (triads_Size.calls t544 t545 t546 t547 t548 _ A6.out).mono ?_); rintro e w11 ⟨rfl, hb⟩; refine ⟨_, rfl, ?_⟩; have n0_ := Aside0.mk (blk_below (g := gb543) (o := .cells #[.int .i64 a0_0, .int .i64 a0_1, .int .i64 a0_2] 23 (0, 0)) (by (with_reducible repeat (first | refine blk_drewN ?_ _ | refine blk_drew ?_ | refine blk_alloc ?_ _)); exact BK543.out) hb); have n1_ := Aside0.mk (below_step (by repeat (first | (with_reducible first | exact HB.out | apply below_alloc | apply pw_below_drewN | apply below_drew1 | refine below_set ?_ GE543.out) | exact HB.out)) hb); clear BK543; clear HB; have BK543 := n0_; have HB := n1_; clear n0_ n1_; (try clear hb); (try clear hb2); (try clear hk); (try clear hi)))
  (try simp only [Act.put, List.setIfInBounds_toArray, List.set_cons_zero, List.set_cons_succ])
  go_cut [31] (fun v31 wc => ∃ (kq : Nat) (x31_6 : Bool), v31 = .bool x31_6 ∧ Aside0 (sackbutlaw04_TriadsSizes.j0 kq a1 a2 a3 t547 t548 x31_6 a0_0 a0_1 a0_2 = some r) ∧ Aside0 (kq ≤ k) ∧ Aside0 (wc.heap[gb543]? = some (.cells #[.int .i64 a0_0, .int .i64 a0_1, .int .i64 a0_2] 23 (0, 0))) ∧ Aside0 (Below w.heap.size w wc))
  case first =>
    have H := HC7.out
    clear HC7
    by_cases c12 : t548 = 0
    · rw [if_pos c12] at H
      have c12b0 : (t548 == 0) = true := beq_iff_eq.mpr c12
      have c12b1 : (t548 != 0) = false := bne_eq_false_iff_eq.mpr c12
      clear c12
      (first | rw [c12b0] | (simp only [i64_w, i32_w]; rw [c12b0]) | skip)
      obtain ⟨y549, hy549⟩ : ∃ y_ : List Int, y_ = (([a1, a2] : List Int)) := ⟨_, rfl⟩
      replace H : ((sackbutlaw04_fine.f k a0_0 a0_1 a0_2 y549).bind fun t552 => (sackbutlaw04_TriadsSizes.j0 k a1 a2 a3 t547 t548 (!t552) a0_0 a0_1 a0_2)) = some r := by first | (rw [hy549]; with_reducible exact H) | (have H2_ := (Option.bind_some _ _).symm.trans H; rw [hy549]; with_reducible exact H2_) | (have H2_ := (Option.bind_some _ _).symm.trans H; with_reducible exact H2_) | with_reducible exact H | (rw [hy549]; exact H) | exact H
      have Ny549 := Aside0.mk hy549
      clear hy549
      replace H := Option.bind_eq_some_iff.mp H
      obtain ⟨t552, A130, H⟩ := H
      replace H : (sackbutlaw04_TriadsSizes.j0 k a1 a2 a3 t547 t548 (!t552) a0_0 a0_1 a0_2) = some r := H
      have A13 := Aside0.mk A130
      clear A130
      have H' := Aside0.mk H
      clear H
      have hcz14_0 : w11.cell? ⟨gb543, 0, none⟩ = some (.int .i64 a0_0) := (blk_cell BK543.out 0).trans rfl
      have hcz14_1 : w11.cell? ⟨gb543, 1, none⟩ = some (.int .i64 a0_1) := (blk_cell BK543.out 1).trans rfl
      have hcz14_2 : w11.cell? ⟨gb543, 2, none⟩ = some (.int .i64 a0_2) := (blk_cell BK543.out 2).trans rfl
      have hfz14_0 := blk_frozen BK543.out 0
      have hfz14_1 := blk_frozen BK543.out 1
      have hfz14_2 := blk_frozen BK543.out 2
      go_wp2_with (first | ((with_reducible refine gate_dst (N := 28) rfl ?_); (try (refine gate_guard (by rfl) ?_; dsimp only)); refine Kd.R_lit (Kd.int .i64) _ 3 ?hg (N := 28) ?hd (xs := ([a1, a2] : List Int)) (inner := [.int .i64 a1, .int .i64 a2]) (ok := fun _ => True) (okp := fun _ => True) ?hr ?hp (fun _ hk => hk) trivial (Below.refl _ _) (Nat.le_refl _) (by simp) ?_; (case hd => rfl); (case hg => rfl); (case hr => first | (go_simp; done) | (go_simp; rfl)); (case hp => exact (Reps.one (show Kd.M (Kd.int .i64) _ _ _ a1 [.int .i64 a1] from rfl) (Reps.one (show Kd.M (Kd.int .i64) _ _ _ a2 [.int .i64 a2] from rfl) (Reps.none _ _)))); intro v550 w15 ho16 hb hg_ hnew_; clear hg_ hnew_; (first | rw [← Ny549.out] at ho16 | (simp only [Int.reduceToNat] at ho16; rw [← Ny549.out] at ho16)); have n0_ := Aside0.mk (Kd.R_lower ho16 (below_size (by repeat (first | (with_reducible first | exact HB.out | apply below_alloc | apply pw_below_drewN | apply below_drew1 | refine below_set ?_ GE543.out) | exact HB.out)))); have n1_ := Aside0.mk (blk_below (g := gb543) (o := .cells #[.int .i64 a0_0, .int .i64 a0_1, .int .i64 a0_2] 23 (0, 0)) (by (with_reducible repeat (first | refine blk_drewN ?_ _ | refine blk_drew ?_ | refine blk_alloc ?_ _)); exact BK543.out) hb); have n2_ := Aside0.mk (below_step (by repeat (first | (with_reducible first | exact HB.out | apply below_alloc | apply pw_below_drewN | apply below_drew1 | refine below_set ?_ GE543.out) | exact HB.out)) hb); clear BK543; clear HB; have HO551 := n0_; have BK543 := n1_; have HB := n2_; clear n0_ n1_ n2_; clear hb ho16; obtain ⟨Ao17, co17, eo17⟩ := Kd.R_slice HO551.out; subst eo17) | (go_at_call 19; (with_reducible refine (sackbutlaw04_fine.calls k a0_0 a0_1 a0_2 _ _ y549 t552 _ ?side1 ?side2 A13.out).mono ?_); (case side1 => repeat (first | exact (Kd.R_reads' HO551.out).2.2 | (with_reducible refine Kd.C_alloc ?_ _) | (with_reducible refine Kd.C_drewN ?_ _) | (with_reducible refine Kd.C_drew ?_))); (case side2 => exact (Kd.R_reads' HO551.out).2.1); rintro e w18 ⟨rfl, hb⟩; have n0_ := Aside0.mk (Kd.R_below (by (with_reducible repeat (first | apply Kd.R_alloc | apply Kd.R_drewN | apply Kd.R_drew)); exact HO551.out) hb); have n1_ := Aside0.mk (blk_below (g := gb543) (o := .cells #[.int .i64 a0_0, .int .i64 a0_1, .int .i64 a0_2] 23 (0, 0)) (by (with_reducible repeat (first | refine blk_drewN ?_ _ | refine blk_drew ?_ | refine blk_alloc ?_ _)); exact BK543.out) hb); have n2_ := Aside0.mk (below_step (by repeat (first | (with_reducible first | exact HB.out | apply below_alloc | apply pw_below_drewN | apply below_drew1 | refine below_set ?_ GE543.out) | exact HB.out)) hb); clear HO551; clear BK543; clear HB; have HO551 := n0_; have BK543 := n1_; have HB := n2_; clear n0_ n1_ n2_; (try clear hb); (try clear hb2); (try clear hk); (try clear hi)))
      go_meet
      case rel => exact ⟨_, (!t552), (by first | rfl | (simp; done) | (simp [*]; done)), H', ⟨by first | omega | exact Nat.le_refl _⟩, ⟨by (with_reducible repeat (first | refine blk_drewN ?_ _ | refine blk_drew ?_ | refine blk_alloc ?_ _)); exact BK543.out⟩, ⟨by repeat (first | (with_reducible first | exact HB.out | apply below_alloc | apply pw_below_drewN | apply below_drew1 | refine below_set ?_ GE543.out) | exact HB.out)⟩⟩
    · rw [if_neg c12] at H
      have c12b0 : (t548 == 0) = false := beq_eq_false_iff_ne.mpr c12
      have c12b1 : (t548 != 0) = true := bne_iff_ne.mpr c12
      (first | rw [c12b0] | (simp only [i64_w, i32_w]; rw [c12b0]) | skip)
      have H' := Aside0.mk H
      clear H
      go_wp2
      go_meet
      case rel => exact ⟨_, (true), (by first | rfl | (simp; done) | (simp [*]; done)), H', ⟨by first | omega | exact Nat.le_refl _⟩, ⟨by (with_reducible repeat (first | refine blk_drewN ?_ _ | refine blk_drew ?_ | refine blk_alloc ?_ _)); exact BK543.out⟩, ⟨by repeat (first | (with_reducible first | exact HB.out | apply below_alloc | apply pw_below_drewN | apply below_drew1 | refine below_set ?_ GE543.out) | exact HB.out)⟩⟩
  case rest =>
    clear HC7
    try clear c1
    try clear p2
    try clear c3
    try clear c12
    try clear c12b0
    try clear c12b1
    try clear c15
    try clear c17
    try clear hcz14_0
    try clear hcz14_1
    try clear hcz14_2
    try clear hcz9_0
    try clear hcz9_1
    try clear hcz9_2
    try clear hfz14_0
    try clear hfz14_1
    try clear hfz14_2
    try clear hfz9_0
    try clear hfz9_1
    try clear hfz9_2
    obtain ⟨kq, x31_6, rfl, HA, HJ6, BK543, HB⟩ := hcut
    cases kq with
    | zero => exact absurd HA.out (by simp [sackbutlaw04_TriadsSizes.j0])
    | succ kj6 =>
      have H := HA.out
      clear HA
      simp only [sackbutlaw04_TriadsSizes.j0] at H
      by_cases c19 : x31_6 = true
      · subst c19
        have H1 : (if t548 = 0 then ((sackbutlaw04_awake.f).bind fun t553 => (some t553)) else (if t548 = 2 then ((sackbutlaw04_awake.f).bind fun t554 => (some t554)) else (some false))) = some r := by rw [if_pos rfl] at H; exact H
        clear H
        have H := H1
        clear H1
        by_cases c20 : t548 = 0
        · rw [if_pos c20] at H
          have c20b0 : (t548 == 0) = true := beq_iff_eq.mpr c20
          have c20b1 : (t548 != 0) = false := bne_eq_false_iff_eq.mpr c20
          clear c20
          replace H := Option.bind_eq_some_iff.mp H
          obtain ⟨t553, A210, H⟩ := H
          replace H : (some t553) = some r := H
          have A21 := Aside0.mk A210
          clear A210
          obtain rfl := Option.some.inj H
          go_wp2_with (first | (go_at_call 20; (with_reducible refine (sackbutlaw04_awake.calls  t553 _ A21.out).mono ?_); rintro e w22 ⟨rfl, hb⟩; have n0_ := Aside0.mk (blk_below (g := gb543) (o := .cells #[.int .i64 a0_0, .int .i64 a0_1, .int .i64 a0_2] 23 (0, 0)) (by (with_reducible repeat (first | refine blk_drewN ?_ _ | refine blk_drew ?_ | refine blk_alloc ?_ _)); exact BK543.out) hb); have n1_ := Aside0.mk (below_step (by repeat (first | (with_reducible first | exact HB.out | apply below_alloc | apply pw_below_drewN | apply below_drew1 | refine below_set ?_ GE543.out) | exact HB.out)) hb); clear BK543; clear HB; have BK543 := n0_; have HB := n1_; clear n0_ n1_; (try clear hb); (try clear hb2); (try clear hk); (try clear hi)))
          go_ret
          exact ⟨by first | rfl | (simp [errW_none, errW_some] <;> rfl) | (simp [*, errW_none, errW_some] <;> rfl), by repeat (first | (with_reducible first | exact HB.out | apply below_alloc | apply pw_below_drewN | apply below_drew1 | refine below_set ?_ GE543.out) | exact HB.out)⟩
        · rw [if_neg c20] at H
          have c20b0 : (t548 == 0) = false := beq_eq_false_iff_ne.mpr c20
          have c20b1 : (t548 != 0) = true := bne_iff_ne.mpr c20
          by_cases c23 : t548 = 2
          · rw [if_pos c23] at H
            have c23b0 : (t548 == 2) = true := beq_iff_eq.mpr c23
            have c23b1 : (t548 != 2) = false := bne_eq_false_iff_eq.mpr c23
            clear c23
            replace H := Option.bind_eq_some_iff.mp H
            obtain ⟨t554, A240, H⟩ := H
            replace H : (some t554) = some r := H
            have A24 := Aside0.mk A240
            clear A240
            obtain rfl := Option.some.inj H
            go_wp2_with (first | (go_at_call 20; (with_reducible refine (sackbutlaw04_awake.calls  t554 _ A24.out).mono ?_); rintro e w25 ⟨rfl, hb⟩; have n0_ := Aside0.mk (blk_below (g := gb543) (o := .cells #[.int .i64 a0_0, .int .i64 a0_1, .int .i64 a0_2] 23 (0, 0)) (by (with_reducible repeat (first | refine blk_drewN ?_ _ | refine blk_drew ?_ | refine blk_alloc ?_ _)); exact BK543.out) hb); have n1_ := Aside0.mk (below_step (by repeat (first | (with_reducible first | exact HB.out | apply below_alloc | apply pw_below_drewN | apply below_drew1 | refine below_set ?_ GE543.out) | exact HB.out)) hb); clear BK543; clear HB; have BK543 := n0_; have HB := n1_; clear n0_ n1_; (try clear hb); (try clear hb2); (try clear hk); (try clear hi)))
            go_ret
            exact ⟨by first | rfl | (simp [errW_none, errW_some] <;> rfl) | (simp [*, errW_none, errW_some] <;> rfl), by repeat (first | (with_reducible first | exact HB.out | apply below_alloc | apply pw_below_drewN | apply below_drew1 | refine below_set ?_ GE543.out) | exact HB.out)⟩
          · rw [if_neg c23] at H
            have c23b0 : (t548 == 2) = false := beq_eq_false_iff_ne.mpr c23
            have c23b1 : (t548 != 2) = true := bne_iff_ne.mpr c23
            obtain rfl := Option.some.inj H
            go_wp2
            go_ret
            exact ⟨by first | rfl | (simp [errW_none, errW_some] <;> rfl) | (simp [*, errW_none, errW_some] <;> rfl), by repeat (first | (with_reducible first | exact HB.out | apply below_alloc | apply pw_below_drewN | apply below_drew1 | refine below_set ?_ GE543.out) | exact HB.out)⟩
      · replace c19 := Bool.eq_false_iff.mpr c19
        subst c19
        have H1 : ((sackbutlaw04_Of.f a0_0 a0_1 a0_2).bind fun bt555 => ((triads_Round.f bt555.1 bt555.2.1 bt555.2.2 0 (⟨#[80, 76, 82]⟩ : ByteArray)).bind fun bt558 => (if bt558.2 = 0 then (if t547 < 1 then (sackbutlaw04_TriadsSizes.j1 kj6 a1 a2 a3 t547 true a0_0 a0_1 a0_2) else (if (bt558.1.length : Int) = t547 then (if t547 = 0 then (none) else (sackbutlaw04_TriadsSizes.j1 kj6 a1 a2 a3 t547 ((Int.tmod (wrap64 (2 * a0_0)) t547) != 0) a0_0 a0_1 a0_2)) else (sackbutlaw04_TriadsSizes.j1 kj6 a1 a2 a3 t547 true a0_0 a0_1 a0_2))) else (sackbutlaw04_TriadsSizes.j1 kj6 a1 a2 a3 t547 true a0_0 a0_1 a0_2)))) = some r := by rw [if_neg (show ¬ (false = true) by decide)] at H; exact H
        clear H
        have H := H1
        clear H1
        replace H := Option.bind_eq_some_iff.mp H
        obtain ⟨⟨t555, t556, t557⟩, A260, H⟩ := H
        replace H : ((triads_Round.f t555 t556 t557 0 (⟨#[80, 76, 82]⟩ : ByteArray)).bind fun bt558 => (if bt558.2 = 0 then (if t547 < 1 then (sackbutlaw04_TriadsSizes.j1 kj6 a1 a2 a3 t547 true a0_0 a0_1 a0_2) else (if (bt558.1.length : Int) = t547 then (if t547 = 0 then (none) else (sackbutlaw04_TriadsSizes.j1 kj6 a1 a2 a3 t547 ((Int.tmod (wrap64 (2 * a0_0)) t547) != 0) a0_0 a0_1 a0_2)) else (sackbutlaw04_TriadsSizes.j1 kj6 a1 a2 a3 t547 true a0_0 a0_1 a0_2))) else (sackbutlaw04_TriadsSizes.j1 kj6 a1 a2 a3 t547 true a0_0 a0_1 a0_2))) = some r := H
        have A26 := Aside0.mk A260
        clear A260
        replace H := Option.bind_eq_some_iff.mp H
        obtain ⟨⟨t558, t561⟩, A270, H⟩ := H
        replace H : (if t561 = 0 then (if t547 < 1 then (sackbutlaw04_TriadsSizes.j1 kj6 a1 a2 a3 t547 true a0_0 a0_1 a0_2) else (if (t558.length : Int) = t547 then (if t547 = 0 then (none) else (sackbutlaw04_TriadsSizes.j1 kj6 a1 a2 a3 t547 ((Int.tmod (wrap64 (2 * a0_0)) t547) != 0) a0_0 a0_1 a0_2)) else (sackbutlaw04_TriadsSizes.j1 kj6 a1 a2 a3 t547 true a0_0 a0_1 a0_2))) else (sackbutlaw04_TriadsSizes.j1 kj6 a1 a2 a3 t547 true a0_0 a0_1 a0_2)) = some r := H
        have A27 := Aside0.mk A270
        clear A270
        have HC28 := Aside0.mk H
        clear H
        have hcz29_0 : wc.cell? ⟨gb543, 0, none⟩ = some (.int .i64 a0_0) := (blk_cell BK543.out 0).trans rfl
        have hcz29_1 : wc.cell? ⟨gb543, 1, none⟩ = some (.int .i64 a0_1) := (blk_cell BK543.out 1).trans rfl
        have hcz29_2 : wc.cell? ⟨gb543, 2, none⟩ = some (.int .i64 a0_2) := (blk_cell BK543.out 2).trans rfl
        have hfz29_0 := blk_frozen BK543.out 0
        have hfz29_1 := blk_frozen BK543.out 1
        have hfz29_2 := blk_frozen BK543.out 2
        go_upto_region 5 with (first | ((with_reducible refine gate_callee (f := 17) rfl ?_); refine goesL_ (some 43) rfl rfl Tryd.func17 (by kernel_rfl) rfl #[.agg #[.int .i64 a0_0, .int .i64 a0_1, .int .i64 a0_2]] rfl (by (try simp only [List.map_toArray, List.map_cons, List.map_nil]); first | done | rfl | (simp only [List.length_drop, List.length_take]; rfl)) ?_; (with_reducible refine (sackbutlaw04_Of.calls a0_0 a0_1 a0_2 t555 t556 t557 _ A26.out).mono ?_); rintro e w30 ⟨rfl, hb⟩; refine ⟨_, rfl, ?_⟩; have n0_ := Aside0.mk (blk_below (g := gb543) (o := .cells #[.int .i64 a0_0, .int .i64 a0_1, .int .i64 a0_2] 23 (0, 0)) (by (with_reducible repeat (first | refine blk_drewN ?_ _ | refine blk_drew ?_ | refine blk_alloc ?_ _)); exact BK543.out) hb); have n1_ := Aside0.mk (below_step (by repeat (first | (with_reducible first | exact HB.out | apply below_alloc | apply pw_below_drewN | apply below_drew1 | refine below_set ?_ GE543.out) | exact HB.out)) hb); clear BK543; clear HB; have BK543 := n0_; have HB := n1_; clear n0_ n1_; (try clear hb); (try clear hb2); (try clear hk); (try clear hi)) | ((with_reducible refine gate_callee (f := 47) rfl ?_); refine goesL_ (some 44) rfl rfl Tryd.func47 (by kernel_rfl) rfl #[.agg #[.int .i64 t555, .int .i64 t556, .int .i64 t557], .int .i64 0, .string (⟨#[80, 76, 82]⟩ : ByteArray)] rfl (by (try simp only [List.map_toArray, List.map_cons, List.map_nil]); first | done | rfl | (simp only [List.length_drop, List.length_take]; rfl)) ?_; (with_reducible refine (triads_Round.calls t555 t556 t557 0 (⟨#[80, 76, 82]⟩ : ByteArray) t558 t561 _ A27.out).mono ?_); rintro e w31 ⟨v559, rfl, ho0, hb⟩; refine ⟨_, rfl, ?_⟩; have n0_ := Aside0.mk (Kd.R_lower ho0 (below_size (by repeat (first | (with_reducible first | exact HB.out | apply below_alloc | apply pw_below_drewN | apply below_drew1 | refine below_set ?_ GE543.out) | exact HB.out)))); have n1_ := Aside0.mk (blk_below (g := gb543) (o := .cells #[.int .i64 a0_0, .int .i64 a0_1, .int .i64 a0_2] 23 (0, 0)) (by (with_reducible repeat (first | refine blk_drewN ?_ _ | refine blk_drew ?_ | refine blk_alloc ?_ _)); exact BK543.out) hb); have n2_ := Aside0.mk (below_step (by repeat (first | (with_reducible first | exact HB.out | apply below_alloc | apply pw_below_drewN | apply below_drew1 | refine below_set ?_ GE543.out) | exact HB.out)) hb); clear BK543; clear HB; have HO560 := n0_; have BK543 := n1_; have HB := n2_; clear n0_ n1_ n2_; (try clear hb); (try clear hb2); (try clear hk); (try clear hi); (try clear ho0)))
        (try simp only [Act.put, List.setIfInBounds_toArray, List.set_cons_zero, List.set_cons_succ])
        go_cut [66] (fun v66 wc => ∃ (kq : Nat) (x66_27 : Bool), v66 = .bool x66_27 ∧ Aside0 (sackbutlaw04_TriadsSizes.j1 kq a1 a2 a3 t547 x66_27 a0_0 a0_1 a0_2 = some r) ∧ Aside0 (kq ≤ kj6) ∧ Aside0 (wc.heap[gb543]? = some (.cells #[.int .i64 a0_0, .int .i64 a0_1, .int .i64 a0_2] 23 (0, 0))) ∧ Aside0 (Below w.heap.size w wc))
        case first =>
          have H := HC28.out
          clear HC28
          by_cases c32 : t561 = 0
          · rw [if_pos c32] at H
            have c32b0 : (t561 == 0) = true := beq_iff_eq.mpr c32
            have c32b1 : (t561 != 0) = false := bne_eq_false_iff_eq.mpr c32
            clear c32
            (first | rw [c32b0] | (simp only [i64_w, i32_w]; rw [c32b0]) | skip)
            by_cases c33 : t547 < 1
            · rw [if_pos c33] at H
              have c33b0 : decide (t547 < 1) = true := decide_eq_true c33
              clear c33
              have H' := Aside0.mk H
              clear H
              go_wp2
              go_meet
              case rel => exact ⟨_, (true), (by first | rfl | (simp; done) | (simp [*]; done)), H', ⟨by have := HJ6.out; first | omega | exact Nat.le_refl _⟩, ⟨by (with_reducible repeat (first | refine blk_drewN ?_ _ | refine blk_drew ?_ | refine blk_alloc ?_ _)); exact BK543.out⟩, ⟨by repeat (first | (with_reducible first | exact HB.out | apply below_alloc | apply pw_below_drewN | apply below_drew1 | refine below_set ?_ GE543.out) | exact HB.out)⟩⟩
            · rw [if_neg c33] at H
              have c33b0 : decide (t547 < 1) = false := decide_eq_false c33
              clear c33
              by_cases c34 : (t558.length : Int) = t547
              · rw [if_pos c34] at H
                have c34b0 : ((t558.length : Int) == t547) = true := beq_iff_eq.mpr c34
                have c34b1 : ((t558.length : Int) != t547) = false := bne_eq_false_iff_eq.mpr c34
                clear c34
                by_cases c35 : t547 = 0
                · rw [if_pos c35] at H
                  exact absurd H (by simp)
                · rw [if_neg c35] at H
                  have c35b0 : (t547 == 0) = false := beq_eq_false_iff_ne.mpr c35
                  have c35b1 : (t547 != 0) = true := bne_iff_ne.mpr c35
                  have H' := Aside0.mk H
                  clear H
                  obtain ⟨Ao36, co36, eo36⟩ := Kd.R_slice HO560.out
                  subst eo36
                  have hcz37_0 : w31.cell? ⟨gb543, 0, none⟩ = some (.int .i64 a0_0) := (blk_cell BK543.out 0).trans rfl
                  have hcz37_1 : w31.cell? ⟨gb543, 1, none⟩ = some (.int .i64 a0_1) := (blk_cell BK543.out 1).trans rfl
                  have hcz37_2 : w31.cell? ⟨gb543, 2, none⟩ = some (.int .i64 a0_2) := (blk_cell BK543.out 2).trans rfl
                  have hfz37_0 := blk_frozen BK543.out 0
                  have hfz37_1 := blk_frozen BK543.out 1
                  have hfz37_2 := blk_frozen BK543.out 2
                  go_wp2
                  go_meet
                  case rel => exact ⟨_, (((Int.tmod (wrap64 (2 * a0_0)) t547) != 0)), (by first | rfl | (simp; done) | (simp [*]; done)), H', ⟨by have := HJ6.out; first | omega | exact Nat.le_refl _⟩, ⟨by (with_reducible repeat (first | refine blk_drewN ?_ _ | refine blk_drew ?_ | refine blk_alloc ?_ _)); exact BK543.out⟩, ⟨by repeat (first | (with_reducible first | exact HB.out | apply below_alloc | apply pw_below_drewN | apply below_drew1 | refine below_set ?_ GE543.out) | exact HB.out)⟩⟩
              · rw [if_neg c34] at H
                have c34b0 : ((t558.length : Int) == t547) = false := beq_eq_false_iff_ne.mpr c34
                have c34b1 : ((t558.length : Int) != t547) = true := bne_iff_ne.mpr c34
                have H' := Aside0.mk H
                clear H
                obtain ⟨Ao38, co38, eo38⟩ := Kd.R_slice HO560.out
                subst eo38
                go_wp2
                go_meet
                case rel => exact ⟨_, (true), (by first | rfl | (simp; done) | (simp [*]; done)), H', ⟨by have := HJ6.out; first | omega | exact Nat.le_refl _⟩, ⟨by (with_reducible repeat (first | refine blk_drewN ?_ _ | refine blk_drew ?_ | refine blk_alloc ?_ _)); exact BK543.out⟩, ⟨by repeat (first | (with_reducible first | exact HB.out | apply below_alloc | apply pw_below_drewN | apply below_drew1 | refine below_set ?_ GE543.out) | exact HB.out)⟩⟩
          · rw [if_neg c32] at H
            have c32b0 : (t561 == 0) = false := beq_eq_false_iff_ne.mpr c32
            have c32b1 : (t561 != 0) = true := bne_iff_ne.mpr c32
            (first | rw [c32b0] | (simp only [i64_w, i32_w]; rw [c32b0]) | skip)
            have H' := Aside0.mk H
            clear H
            go_wp2
            go_meet
            case rel => exact ⟨_, (true), (by first | rfl | (simp; done) | (simp [*]; done)), H', ⟨by have := HJ6.out; first | omega | exact Nat.le_refl _⟩, ⟨by (with_reducible repeat (first | refine blk_drewN ?_ _ | refine blk_drew ?_ | refine blk_alloc ?_ _)); exact BK543.out⟩, ⟨by repeat (first | (with_reducible first | exact HB.out | apply below_alloc | apply pw_below_drewN | apply below_drew1 | refine below_set ?_ GE543.out) | exact HB.out)⟩⟩
        case rest =>
          clear HC28
          try clear c1
          try clear c2
          try clear p2
          try clear c3
          try clear c4
          try clear p6
          try clear c12
          try clear c12b0
          try clear c12b1
          try clear c15
          try clear c17
          try clear c19
          try clear c20
          try clear c20b0
          try clear c20b1
          try clear c23
          try clear c23b0
          try clear c23b1
          try clear c32
          try clear c32b0
          try clear c32b1
          try clear c33
          try clear c33b0
          try clear c34
          try clear c34b0
          try clear c34b1
          try clear c35
          try clear c35b0
          try clear c35b1
          try clear hcz14_0
          try clear hcz14_1
          try clear hcz14_2
          try clear hcz29_0
          try clear hcz29_1
          try clear hcz29_2
          try clear hcz37_0
          try clear hcz37_1
          try clear hcz37_2
          try clear hcz9_0
          try clear hcz9_1
          try clear hcz9_2
          try clear hfz14_0
          try clear hfz14_1
          try clear hfz14_2
          try clear hfz29_0
          try clear hfz29_1
          try clear hfz29_2
          try clear hfz37_0
          try clear hfz37_1
          try clear hfz37_2
          try clear hfz9_0
          try clear hfz9_1
          try clear hfz9_2
          try clear p2
          obtain ⟨kq, x66_27, rfl, HA, HJ27, BK543, HB⟩ := hcut
          cases kq with
          | zero => exact absurd HA.out (by simp [sackbutlaw04_TriadsSizes.j1])
          | succ kj27 =>
            have H := HA.out
            clear HA
            simp only [sackbutlaw04_TriadsSizes.j1] at H
            by_cases c39 : x66_27 = true
            · subst c39
              have H1 : (some false) = some r := by rw [if_pos rfl] at H; exact H
              clear H
              have H := H1
              clear H1
              obtain rfl := Option.some.inj H
              go_wp2
              go_ret
              exact ⟨by first | rfl | (simp [errW_none, errW_some] <;> rfl) | (simp [*, errW_none, errW_some] <;> rfl), by repeat (first | (with_reducible first | exact HB.out | apply below_alloc | apply pw_below_drewN | apply below_drew1 | refine below_set ?_ GE543.out) | exact HB.out)⟩
            · replace c39 := Bool.eq_false_iff.mpr c39
              subst c39
              have H1 : ((sackbutlaw04_Of.f a0_0 a0_1 a0_2).bind fun bt562 => ((triads_Way.f bt562.1 bt562.2.1 bt562.2.2 a1 a2).bind fun bt565 => (if bt565.2 = 0 then ((sackbutlaw04_Of.f a0_0 a0_1 a0_2).bind fun bt568 => ((triads_Walk.f bt568.1 bt568.2.1 bt568.2.2 a1 bt565.1).bind fun bt571 => (if bt571.2 = 0 then (sackbutlaw04_TriadsSizes.j2 kj27 a1 a2 a3 bt565.1 (bt571.1 != a2) a0_0 a0_1 a0_2) else (sackbutlaw04_TriadsSizes.j2 kj27 a1 a2 a3 bt565.1 true a0_0 a0_1 a0_2)))) else (if bt565.2 = 4 then (if t547 < (wrap64 (2 * a0_0)) then ((sackbutlaw04_awake.f).bind fun t567 => (some t567)) else (some false)) else (some false))))) = some r := by rw [if_neg (show ¬ (false = true) by decide)] at H; exact H
              clear H
              have H := H1
              clear H1
              replace H := Option.bind_eq_some_iff.mp H
              obtain ⟨⟨t562, t563, t564⟩, A400, H⟩ := H
              replace H : ((triads_Way.f t562 t563 t564 a1 a2).bind fun bt565 => (if bt565.2 = 0 then ((sackbutlaw04_Of.f a0_0 a0_1 a0_2).bind fun bt568 => ((triads_Walk.f bt568.1 bt568.2.1 bt568.2.2 a1 bt565.1).bind fun bt571 => (if bt571.2 = 0 then (sackbutlaw04_TriadsSizes.j2 kj27 a1 a2 a3 bt565.1 (bt571.1 != a2) a0_0 a0_1 a0_2) else (sackbutlaw04_TriadsSizes.j2 kj27 a1 a2 a3 bt565.1 true a0_0 a0_1 a0_2)))) else (if bt565.2 = 4 then (if t547 < (wrap64 (2 * a0_0)) then ((sackbutlaw04_awake.f).bind fun t567 => (some t567)) else (some false)) else (some false)))) = some r := H
              have A40 := Aside0.mk A400
              clear A400
              replace H := Option.bind_eq_some_iff.mp H
              obtain ⟨⟨t565, t566⟩, A410, H⟩ := H
              replace H : (if t566 = 0 then ((sackbutlaw04_Of.f a0_0 a0_1 a0_2).bind fun bt568 => ((triads_Walk.f bt568.1 bt568.2.1 bt568.2.2 a1 t565).bind fun bt571 => (if bt571.2 = 0 then (sackbutlaw04_TriadsSizes.j2 kj27 a1 a2 a3 t565 (bt571.1 != a2) a0_0 a0_1 a0_2) else (sackbutlaw04_TriadsSizes.j2 kj27 a1 a2 a3 t565 true a0_0 a0_1 a0_2)))) else (if t566 = 4 then (if t547 < (wrap64 (2 * a0_0)) then ((sackbutlaw04_awake.f).bind fun t567 => (some t567)) else (some false)) else (some false))) = some r := H
              have A41 := Aside0.mk A410
              clear A410
              by_cases c42 : t566 = 0
              · rw [if_pos c42] at H
                have c42b0 : (t566 == 0) = true := beq_iff_eq.mpr c42
                have c42b1 : (t566 != 0) = false := bne_eq_false_iff_eq.mpr c42
                clear c42
                replace H := Option.bind_eq_some_iff.mp H
                obtain ⟨⟨t568, t569, t570⟩, A430, H⟩ := H
                replace H : ((triads_Walk.f t568 t569 t570 a1 t565).bind fun bt571 => (if bt571.2 = 0 then (sackbutlaw04_TriadsSizes.j2 kj27 a1 a2 a3 t565 (bt571.1 != a2) a0_0 a0_1 a0_2) else (sackbutlaw04_TriadsSizes.j2 kj27 a1 a2 a3 t565 true a0_0 a0_1 a0_2))) = some r := H
                have A43 := Aside0.mk A430
                clear A430
                replace H := Option.bind_eq_some_iff.mp H
                obtain ⟨⟨t571, t572⟩, A440, H⟩ := H
                replace H : (if t572 = 0 then (sackbutlaw04_TriadsSizes.j2 kj27 a1 a2 a3 t565 (t571 != a2) a0_0 a0_1 a0_2) else (sackbutlaw04_TriadsSizes.j2 kj27 a1 a2 a3 t565 true a0_0 a0_1 a0_2)) = some r := H
                have A44 := Aside0.mk A440
                clear A440
                have HC45 := Aside0.mk H
                clear H
                have hcz46_0 : wc.cell? ⟨gb543, 0, none⟩ = some (.int .i64 a0_0) := (blk_cell BK543.out 0).trans rfl
                have hcz46_1 : wc.cell? ⟨gb543, 1, none⟩ = some (.int .i64 a0_1) := (blk_cell BK543.out 1).trans rfl
                have hcz46_2 : wc.cell? ⟨gb543, 2, none⟩ = some (.int .i64 a0_2) := (blk_cell BK543.out 2).trans rfl
                have hfz46_0 := blk_frozen BK543.out 0
                have hfz46_1 := blk_frozen BK543.out 1
                have hfz46_2 := blk_frozen BK543.out 2
                go_upto_region 11 with (first | ((with_reducible refine gate_callee (f := 17) rfl ?_); refine goesL_ (some 69) rfl rfl Tryd.func17 (by kernel_rfl) rfl #[.agg #[.int .i64 a0_0, .int .i64 a0_1, .int .i64 a0_2]] rfl (by (try simp only [List.map_toArray, List.map_cons, List.map_nil]); first | done | rfl | (simp only [List.length_drop, List.length_take]; rfl)) ?_; (with_reducible refine (sackbutlaw04_Of.calls a0_0 a0_1 a0_2 t562 t563 t564 _ A40.out).mono ?_); rintro e w47 ⟨rfl, hb⟩; refine ⟨_, rfl, ?_⟩; have n0_ := Aside0.mk (blk_below (g := gb543) (o := .cells #[.int .i64 a0_0, .int .i64 a0_1, .int .i64 a0_2] 23 (0, 0)) (by (with_reducible repeat (first | refine blk_drewN ?_ _ | refine blk_drew ?_ | refine blk_alloc ?_ _)); exact BK543.out) hb); have n1_ := Aside0.mk (below_step (by repeat (first | (with_reducible first | exact HB.out | apply below_alloc | apply pw_below_drewN | apply below_drew1 | refine below_set ?_ GE543.out) | exact HB.out)) hb); clear BK543; clear HB; have BK543 := n0_; have HB := n1_; clear n0_ n1_; (try clear hb); (try clear hb2); (try clear hk); (try clear hi)) | ((with_reducible refine gate_callee (f := 37) rfl ?_); refine goesL_ (some 72) rfl rfl Tryd.func37 (by kernel_rfl) rfl #[.agg #[.int .i64 t562, .int .i64 t563, .int .i64 t564], .int .i64 a1, .int .i64 a2] rfl (by (try simp only [List.map_toArray, List.map_cons, List.map_nil]); first | done | rfl | (simp only [List.length_drop, List.length_take]; rfl)) ?_; (with_reducible refine (triads_Way.calls t562 t563 t564 a1 a2 t565 t566 _ A41.out).mono ?_); rintro e w48 ⟨rfl, hb⟩; refine ⟨_, rfl, ?_⟩; have n0_ := Aside0.mk (blk_below (g := gb543) (o := .cells #[.int .i64 a0_0, .int .i64 a0_1, .int .i64 a0_2] 23 (0, 0)) (by (with_reducible repeat (first | refine blk_drewN ?_ _ | refine blk_drew ?_ | refine blk_alloc ?_ _)); exact BK543.out) hb); have n1_ := Aside0.mk (below_step (by repeat (first | (with_reducible first | exact HB.out | apply below_alloc | apply pw_below_drewN | apply below_drew1 | refine below_set ?_ GE543.out) | exact HB.out)) hb); clear BK543; clear HB; have BK543 := n0_; have HB := n1_; clear n0_ n1_; (try clear hb); (try clear hb2); (try clear hk); (try clear hi); have hcz49_0 : w48.cell? ⟨gb543, 0, none⟩ = some (.int .i64 a0_0) := (blk_cell BK543.out 0).trans rfl; have hcz49_1 : w48.cell? ⟨gb543, 1, none⟩ = some (.int .i64 a0_1) := (blk_cell BK543.out 1).trans rfl; have hcz49_2 : w48.cell? ⟨gb543, 2, none⟩ = some (.int .i64 a0_2) := (blk_cell BK543.out 2).trans rfl; have hfz49_0 := blk_frozen BK543.out 0; have hfz49_1 := blk_frozen BK543.out 1; have hfz49_2 := blk_frozen BK543.out 2) | ((with_reducible refine gate_callee (f := 17) rfl ?_); refine goesL_ (some 91) rfl rfl Tryd.func17 (by kernel_rfl) rfl #[.agg #[.int .i64 a0_0, .int .i64 a0_1, .int .i64 a0_2]] rfl (by (try simp only [List.map_toArray, List.map_cons, List.map_nil]); first | done | rfl | (simp only [List.length_drop, List.length_take]; rfl)) ?_; (with_reducible refine (sackbutlaw04_Of.calls a0_0 a0_1 a0_2 t568 t569 t570 _ A43.out).mono ?_); rintro e w50 ⟨rfl, hb⟩; refine ⟨_, rfl, ?_⟩; have n0_ := Aside0.mk (blk_below (g := gb543) (o := .cells #[.int .i64 a0_0, .int .i64 a0_1, .int .i64 a0_2] 23 (0, 0)) (by (with_reducible repeat (first | refine blk_drewN ?_ _ | refine blk_drew ?_ | refine blk_alloc ?_ _)); exact BK543.out) hb); have n1_ := Aside0.mk (below_step (by repeat (first | (with_reducible first | exact HB.out | apply below_alloc | apply pw_below_drewN | apply below_drew1 | refine below_set ?_ GE543.out) | exact HB.out)) hb); clear BK543; clear HB; have BK543 := n0_; have HB := n1_; clear n0_ n1_; (try clear hb); (try clear hb2); (try clear hk); (try clear hi)) | ((with_reducible refine gate_callee (f := 16) rfl ?_); refine goesL_ (some 94) rfl rfl Tryd.func16 (by kernel_rfl) rfl #[.agg #[.int .i64 t568, .int .i64 t569, .int .i64 t570], .int .i64 a1, .string t565] rfl (by (try simp only [List.map_toArray, List.map_cons, List.map_nil]); first | done | rfl | (simp only [List.length_drop, List.length_take]; rfl)) ?_; (with_reducible refine (triads_Walk.calls t568 t569 t570 a1 t565 t571 t572 _ A44.out).mono ?_); rintro e w51 ⟨rfl, hb⟩; refine ⟨_, rfl, ?_⟩; have n0_ := Aside0.mk (blk_below (g := gb543) (o := .cells #[.int .i64 a0_0, .int .i64 a0_1, .int .i64 a0_2] 23 (0, 0)) (by (with_reducible repeat (first | refine blk_drewN ?_ _ | refine blk_drew ?_ | refine blk_alloc ?_ _)); exact BK543.out) hb); have n1_ := Aside0.mk (below_step (by repeat (first | (with_reducible first | exact HB.out | apply below_alloc | apply pw_below_drewN | apply below_drew1 | refine below_set ?_ GE543.out) | exact HB.out)) hb); clear BK543; clear HB; have BK543 := n0_; have HB := n1_; clear n0_ n1_; (try clear hb); (try clear hb2); (try clear hk); (try clear hi)))
                (try simp only [Act.put, List.setIfInBounds_toArray, List.set_cons_zero, List.set_cons_succ])
                go_cut [103] (fun v103 wc => ∃ (kq : Nat) (x103_44 : Bool), v103 = .bool x103_44 ∧ Aside0 (sackbutlaw04_TriadsSizes.j2 kq a1 a2 a3 t565 x103_44 a0_0 a0_1 a0_2 = some r) ∧ Aside0 (kq ≤ kj27) ∧ Aside0 (wc.heap[gb543]? = some (.cells #[.int .i64 a0_0, .int .i64 a0_1, .int .i64 a0_2] 23 (0, 0))) ∧ Aside0 (Below w.heap.size w wc))
                case first =>
                  have H := HC45.out
                  clear HC45
                  by_cases c52 : t572 = 0
                  · rw [if_pos c52] at H
                    have c52b0 : (t572 == 0) = true := beq_iff_eq.mpr c52
                    have c52b1 : (t572 != 0) = false := bne_eq_false_iff_eq.mpr c52
                    clear c52
                    (first | rw [c52b0] | (simp only [i64_w, i32_w]; rw [c52b0]) | skip)
                    have H' := Aside0.mk H
                    clear H
                    go_wp2
                    go_meet
                    case rel => exact ⟨_, ((t571 != a2)), (by first | rfl | (simp; done) | (simp [*]; done)), H', ⟨by have := HJ6.out; have := HJ27.out; first | omega | exact Nat.le_refl _⟩, ⟨by (with_reducible repeat (first | refine blk_drewN ?_ _ | refine blk_drew ?_ | refine blk_alloc ?_ _)); exact BK543.out⟩, ⟨by repeat (first | (with_reducible first | exact HB.out | apply below_alloc | apply pw_below_drewN | apply below_drew1 | refine below_set ?_ GE543.out) | exact HB.out)⟩⟩
                  · rw [if_neg c52] at H
                    have c52b0 : (t572 == 0) = false := beq_eq_false_iff_ne.mpr c52
                    have c52b1 : (t572 != 0) = true := bne_iff_ne.mpr c52
                    (first | rw [c52b0] | (simp only [i64_w, i32_w]; rw [c52b0]) | skip)
                    have H' := Aside0.mk H
                    clear H
                    go_wp2
                    go_meet
                    case rel => exact ⟨_, (true), (by first | rfl | (simp; done) | (simp [*]; done)), H', ⟨by have := HJ6.out; have := HJ27.out; first | omega | exact Nat.le_refl _⟩, ⟨by (with_reducible repeat (first | refine blk_drewN ?_ _ | refine blk_drew ?_ | refine blk_alloc ?_ _)); exact BK543.out⟩, ⟨by repeat (first | (with_reducible first | exact HB.out | apply below_alloc | apply pw_below_drewN | apply below_drew1 | refine below_set ?_ GE543.out) | exact HB.out)⟩⟩
                case rest =>
                  clear HC45
                  try clear c1
                  try clear c2
                  try clear p2
                  try clear c3
                  try clear c4
                  try clear c5
                  try clear p6
                  try clear c12
                  try clear c12b0
                  try clear c12b1
                  try clear c15
                  try clear c16
                  try clear c17
                  try clear c19
                  try clear c20
                  try clear c20b0
                  try clear c20b1
                  try clear c23
                  try clear c23b0
                  try clear c23b1
                  try clear c32
                  try clear c32b0
                  try clear c32b1
                  try clear c33
                  try clear c33b0
                  try clear c34
                  try clear c34b0
                  try clear c34b1
                  try clear c35
                  try clear c35b0
                  try clear c35b1
                  try clear c37
                  try clear c39
                  try clear c42
                  try clear c42b0
                  try clear c42b1
                  try clear c47
                  try clear c52
                  try clear c52b0
                  try clear c52b1
                  try clear hcz14_0
                  try clear hcz14_1
                  try clear hcz14_2
                  try clear hcz29_0
                  try clear hcz29_1
                  try clear hcz29_2
                  try clear hcz37_0
                  try clear hcz37_1
                  try clear hcz37_2
                  try clear hcz46_0
                  try clear hcz46_1
                  try clear hcz46_2
                  try clear hcz49_0
                  try clear hcz49_1
                  try clear hcz49_2
                  try clear hcz9_0
                  try clear hcz9_1
                  try clear hcz9_2
                  try clear hfz14_0
                  try clear hfz14_1
                  try clear hfz14_2
                  try clear hfz29_0
                  try clear hfz29_1
                  try clear hfz29_2
                  try clear hfz37_0
                  try clear hfz37_1
                  try clear hfz37_2
                  try clear hfz46_0
                  try clear hfz46_1
                  try clear hfz46_2
                  try clear hfz49_0
                  try clear hfz49_1
                  try clear hfz49_2
                  try clear hfz9_0
                  try clear hfz9_1
                  try clear hfz9_2
                  try clear p2
                  try clear p6
                  obtain ⟨kq, x103_44, rfl, HA, HJ44, BK543, HB⟩ := hcut
                  cases kq with
                  | zero => exact absurd HA.out (by simp [sackbutlaw04_TriadsSizes.j2])
                  | succ kj44 =>
                    have H := HA.out
                    clear HA
                    simp only [sackbutlaw04_TriadsSizes.j2] at H
                    by_cases c53 : x103_44 = true
                    · subst c53
                      have H1 : (some false) = some r := by rw [if_pos rfl] at H; exact H
                      clear H
                      have H := H1
                      clear H1
                      obtain rfl := Option.some.inj H
                      go_wp2
                      go_ret
                      exact ⟨by first | rfl | (simp [errW_none, errW_some] <;> rfl) | (simp [*, errW_none, errW_some] <;> rfl), by repeat (first | (with_reducible first | exact HB.out | apply below_alloc | apply pw_below_drewN | apply below_drew1 | refine below_set ?_ GE543.out) | exact HB.out)⟩
                    · replace c53 := Bool.eq_false_iff.mpr c53
                      subst c53
                      have H1 : ((sackbutlaw04_Of.f a0_0 a0_1 a0_2).bind fun bt573 => ((sackbutlaw04_text.f a3).bind fun t576 => ((triads_Walk.f bt573.1 bt573.2.1 bt573.2.2 a1 t576).bind fun bt577 => (if bt577.2 = 0 then (sackbutlaw04_TriadsSizes.j3 kj44 a3 bt577.2 t565 (bt577.1 != a2) a0_0 a0_1 a0_2) else (sackbutlaw04_TriadsSizes.j3 kj44 a3 bt577.2 t565 true a0_0 a0_1 a0_2))))) = some r := by rw [if_neg (show ¬ (false = true) by decide)] at H; exact H
                      clear H
                      have H := H1
                      clear H1
                      replace H := Option.bind_eq_some_iff.mp H
                      obtain ⟨⟨t573, t574, t575⟩, A540, H⟩ := H
                      replace H : ((sackbutlaw04_text.f a3).bind fun t576 => ((triads_Walk.f t573 t574 t575 a1 t576).bind fun bt577 => (if bt577.2 = 0 then (sackbutlaw04_TriadsSizes.j3 kj44 a3 bt577.2 t565 (bt577.1 != a2) a0_0 a0_1 a0_2) else (sackbutlaw04_TriadsSizes.j3 kj44 a3 bt577.2 t565 true a0_0 a0_1 a0_2)))) = some r := H
                      have A54 := Aside0.mk A540
                      clear A540
                      replace H := Option.bind_eq_some_iff.mp H
                      obtain ⟨t576, A550, H⟩ := H
                      replace H : ((triads_Walk.f t573 t574 t575 a1 t576).bind fun bt577 => (if bt577.2 = 0 then (sackbutlaw04_TriadsSizes.j3 kj44 a3 bt577.2 t565 (bt577.1 != a2) a0_0 a0_1 a0_2) else (sackbutlaw04_TriadsSizes.j3 kj44 a3 bt577.2 t565 true a0_0 a0_1 a0_2))) = some r := H
                      have A55 := Aside0.mk A550
                      clear A550
                      replace H := Option.bind_eq_some_iff.mp H
                      obtain ⟨⟨t577, t578⟩, A560, H⟩ := H
                      replace H : (if t578 = 0 then (sackbutlaw04_TriadsSizes.j3 kj44 a3 t578 t565 (t577 != a2) a0_0 a0_1 a0_2) else (sackbutlaw04_TriadsSizes.j3 kj44 a3 t578 t565 true a0_0 a0_1 a0_2)) = some r := H
                      have A56 := Aside0.mk A560
                      clear A560
                      have HC57 := Aside0.mk H
                      clear H
                      have hcz58_0 : wc.cell? ⟨gb543, 0, none⟩ = some (.int .i64 a0_0) := (blk_cell BK543.out 0).trans rfl
                      have hcz58_1 : wc.cell? ⟨gb543, 1, none⟩ = some (.int .i64 a0_1) := (blk_cell BK543.out 1).trans rfl
                      have hcz58_2 : wc.cell? ⟨gb543, 2, none⟩ = some (.int .i64 a0_2) := (blk_cell BK543.out 2).trans rfl
                      have hfz58_0 := blk_frozen BK543.out 0
                      have hfz58_1 := blk_frozen BK543.out 1
                      have hfz58_2 := blk_frozen BK543.out 2
                      go_upto_region 14 with (first | ((with_reducible refine gate_callee (f := 17) rfl ?_); refine goesL_ (some 106) rfl rfl Tryd.func17 (by kernel_rfl) rfl #[.agg #[.int .i64 a0_0, .int .i64 a0_1, .int .i64 a0_2]] rfl (by (try simp only [List.map_toArray, List.map_cons, List.map_nil]); first | done | rfl | (simp only [List.length_drop, List.length_take]; rfl)) ?_; (with_reducible refine (sackbutlaw04_Of.calls a0_0 a0_1 a0_2 t573 t574 t575 _ A54.out).mono ?_); rintro e w59 ⟨rfl, hb⟩; refine ⟨_, rfl, ?_⟩; have n0_ := Aside0.mk (blk_below (g := gb543) (o := .cells #[.int .i64 a0_0, .int .i64 a0_1, .int .i64 a0_2] 23 (0, 0)) (by (with_reducible repeat (first | refine blk_drewN ?_ _ | refine blk_drew ?_ | refine blk_alloc ?_ _)); exact BK543.out) hb); have n1_ := Aside0.mk (below_step (by repeat (first | (with_reducible first | exact HB.out | apply below_alloc | apply pw_below_drewN | apply below_drew1 | refine below_set ?_ GE543.out) | exact HB.out)) hb); clear BK543; clear HB; have BK543 := n0_; have HB := n1_; clear n0_ n1_; (try clear hb); (try clear hb2); (try clear hk); (try clear hi)) | ((with_reducible refine gate_callee (f := 18) rfl ?_); refine goesL_ (some 109) rfl rfl Tryd.func18 (by kernel_rfl) rfl #[.string a3] rfl (by (try simp only [List.map_toArray, List.map_cons, List.map_nil]); first | done | rfl | (simp only [List.length_drop, List.length_take]; rfl)) ?_; (with_reducible refine (sackbutlaw04_text.calls a3 t576 _ A55.out).mono ?_); rintro e w60 ⟨rfl, hb⟩; refine ⟨_, rfl, ?_⟩; have n0_ := Aside0.mk (blk_below (g := gb543) (o := .cells #[.int .i64 a0_0, .int .i64 a0_1, .int .i64 a0_2] 23 (0, 0)) (by (with_reducible repeat (first | refine blk_drewN ?_ _ | refine blk_drew ?_ | refine blk_alloc ?_ _)); exact BK543.out) hb); have n1_ := Aside0.mk (below_step (by repeat (first | (with_reducible first | exact HB.out | apply below_alloc | apply pw_below_drewN | apply below_drew1 | refine below_set ?_ GE543.out) | exact HB.out)) hb); clear BK543; clear HB; have BK543 := n0_; have HB := n1_; clear n0_ n1_; (try clear hb); (try clear hb2); (try clear hk); (try clear hi)) | ((with_reducible refine gate_callee (f := 16) rfl ?_); refine goesL_ (some 110) rfl rfl Tryd.func16 (by kernel_rfl) rfl #[.agg #[.int .i64 t573, .int .i64 t574, .int .i64 t575], .int .i64 a1, .string t576] rfl (by (try simp only [List.map_toArray, List.map_cons, List.map_nil]); first | done | rfl | (simp only [List.length_drop, List.length_take]; rfl)) ?_; (with_reducible refine (triads_Walk.calls t573 t574 t575 a1 t576 t577 t578 _ A56.out).mono ?_); rintro e w61 ⟨rfl, hb⟩; refine ⟨_, rfl, ?_⟩; have n0_ := Aside0.mk (blk_below (g := gb543) (o := .cells #[.int .i64 a0_0, .int .i64 a0_1, .int .i64 a0_2] 23 (0, 0)) (by (with_reducible repeat (first | refine blk_drewN ?_ _ | refine blk_drew ?_ | refine blk_alloc ?_ _)); exact BK543.out) hb); have n1_ := Aside0.mk (below_step (by repeat (first | (with_reducible first | exact HB.out | apply below_alloc | apply pw_below_drewN | apply below_drew1 | refine below_set ?_ GE543.out) | exact HB.out)) hb); clear BK543; clear HB; have BK543 := n0_; have HB := n1_; clear n0_ n1_; (try clear hb); (try clear hb2); (try clear hk); (try clear hi)))
                      (try simp only [Act.put, List.setIfInBounds_toArray, List.set_cons_zero, List.set_cons_succ])
                      go_cut [119] (fun v119 wc => ∃ (kq : Nat) (x119_56 : Bool), v119 = .bool x119_56 ∧ Aside0 (sackbutlaw04_TriadsSizes.j3 kq a3 t578 t565 x119_56 a0_0 a0_1 a0_2 = some r) ∧ Aside0 (kq ≤ kj44) ∧ Aside0 (wc.heap[gb543]? = some (.cells #[.int .i64 a0_0, .int .i64 a0_1, .int .i64 a0_2] 23 (0, 0))) ∧ Aside0 (Below w.heap.size w wc))
                      case first =>
                        have H := HC57.out
                        clear HC57
                        by_cases c62 : t578 = 0
                        · rw [if_pos c62] at H
                          have c62b0 : (t578 == 0) = true := beq_iff_eq.mpr c62
                          have c62b1 : (t578 != 0) = false := bne_eq_false_iff_eq.mpr c62
                          clear c62
                          (first | rw [c62b0] | (simp only [i64_w, i32_w]; rw [c62b0]) | skip)
                          have H' := Aside0.mk H
                          clear H
                          go_wp2
                          go_meet
                          case rel => exact ⟨_, ((t577 != a2)), (by first | rfl | (simp; done) | (simp [*]; done)), H', ⟨by have := HJ6.out; have := HJ27.out; have := HJ44.out; first | omega | exact Nat.le_refl _⟩, ⟨by (with_reducible repeat (first | refine blk_drewN ?_ _ | refine blk_drew ?_ | refine blk_alloc ?_ _)); exact BK543.out⟩, ⟨by repeat (first | (with_reducible first | exact HB.out | apply below_alloc | apply pw_below_drewN | apply below_drew1 | refine below_set ?_ GE543.out) | exact HB.out)⟩⟩
                        · rw [if_neg c62] at H
                          have c62b0 : (t578 == 0) = false := beq_eq_false_iff_ne.mpr c62
                          have c62b1 : (t578 != 0) = true := bne_iff_ne.mpr c62
                          (first | rw [c62b0] | (simp only [i64_w, i32_w]; rw [c62b0]) | skip)
                          have H' := Aside0.mk H
                          clear H
                          go_wp2
                          go_meet
                          case rel => exact ⟨_, (true), (by first | rfl | (simp; done) | (simp [*]; done)), H', ⟨by have := HJ6.out; have := HJ27.out; have := HJ44.out; first | omega | exact Nat.le_refl _⟩, ⟨by (with_reducible repeat (first | refine blk_drewN ?_ _ | refine blk_drew ?_ | refine blk_alloc ?_ _)); exact BK543.out⟩, ⟨by repeat (first | (with_reducible first | exact HB.out | apply below_alloc | apply pw_below_drewN | apply below_drew1 | refine below_set ?_ GE543.out) | exact HB.out)⟩⟩
                      case rest =>
                        clear HC57
                        try clear c1
                        try clear c2
                        try clear p2
                        try clear c3
                        try clear c4
                        try clear c5
                        try clear c6
                        try clear p6
                        try clear c12
                        try clear c12b0
                        try clear c12b1
                        try clear c15
                        try clear c16
                        try clear c17
                        try clear c18
                        try clear c19
                        try clear c20
                        try clear c20b0
                        try clear c20b1
                        try clear c23
                        try clear c23b0
                        try clear c23b1
                        try clear c32
                        try clear c32b0
                        try clear c32b1
                        try clear c33
                        try clear c33b0
                        try clear c34
                        try clear c34b0
                        try clear c34b1
                        try clear c35
                        try clear c35b0
                        try clear c35b1
                        try clear c37
                        try clear c39
                        try clear c42
                        try clear c42b0
                        try clear c42b1
                        try clear c47
                        try clear c52
                        try clear c52b0
                        try clear c52b1
                        try clear c53
                        try clear c62
                        try clear c62b0
                        try clear c62b1
                        try clear hcz14_0
                        try clear hcz14_1
                        try clear hcz14_2
                        try clear hcz29_0
                        try clear hcz29_1
                        try clear hcz29_2
                        try clear hcz37_0
                        try clear hcz37_1
                        try clear hcz37_2
                        try clear hcz46_0
                        try clear hcz46_1
                        try clear hcz46_2
                        try clear hcz49_0
                        try clear hcz49_1
                        try clear hcz49_2
                        try clear hcz58_0
                        try clear hcz58_1
                        try clear hcz58_2
                        try clear hcz9_0
                        try clear hcz9_1
                        try clear hcz9_2
                        try clear hfz14_0
                        try clear hfz14_1
                        try clear hfz14_2
                        try clear hfz29_0
                        try clear hfz29_1
                        try clear hfz29_2
                        try clear hfz37_0
                        try clear hfz37_1
                        try clear hfz37_2
                        try clear hfz46_0
                        try clear hfz46_1
                        try clear hfz46_2
                        try clear hfz49_0
                        try clear hfz49_1
                        try clear hfz49_2
                        try clear hfz58_0
                        try clear hfz58_1
                        try clear hfz58_2
                        try clear hfz9_0
                        try clear hfz9_1
                        try clear hfz9_2
                        try clear p2
                        try clear p6
                        obtain ⟨kq, x119_56, rfl, HA, HJ56, BK543, HB⟩ := hcut
                        cases kq with
                        | zero => exact absurd HA.out (by simp [sackbutlaw04_TriadsSizes.j3])
                        | succ kj56 =>
                          have H := HA.out
                          clear HA
                          simp only [sackbutlaw04_TriadsSizes.j3] at H
                          by_cases c63 : x119_56 = true
                          · subst c63
                            have H1 : (if t578 = 0 then ((sackbutlaw04_awake.f).bind fun t579 => (some t579)) else (if t578 = 3 then ((sackbutlaw04_awake.f).bind fun t580 => (some t580)) else (some false))) = some r := by rw [if_pos rfl] at H; exact H
                            clear H
                            have H := H1
                            clear H1
                            by_cases c64 : t578 = 0
                            · rw [if_pos c64] at H
                              have c64b0 : (t578 == 0) = true := beq_iff_eq.mpr c64
                              have c64b1 : (t578 != 0) = false := bne_eq_false_iff_eq.mpr c64
                              clear c64
                              replace H := Option.bind_eq_some_iff.mp H
                              obtain ⟨t579, A650, H⟩ := H
                              replace H : (some t579) = some r := H
                              have A65 := Aside0.mk A650
                              clear A650
                              obtain rfl := Option.some.inj H
                              go_wp2_with (first | (go_at_call 20; (with_reducible refine (sackbutlaw04_awake.calls  t579 _ A65.out).mono ?_); rintro e w66 ⟨rfl, hb⟩; have n0_ := Aside0.mk (blk_below (g := gb543) (o := .cells #[.int .i64 a0_0, .int .i64 a0_1, .int .i64 a0_2] 23 (0, 0)) (by (with_reducible repeat (first | refine blk_drewN ?_ _ | refine blk_drew ?_ | refine blk_alloc ?_ _)); exact BK543.out) hb); have n1_ := Aside0.mk (below_step (by repeat (first | (with_reducible first | exact HB.out | apply below_alloc | apply pw_below_drewN | apply below_drew1 | refine below_set ?_ GE543.out) | exact HB.out)) hb); clear BK543; clear HB; have BK543 := n0_; have HB := n1_; clear n0_ n1_; (try clear hb); (try clear hb2); (try clear hk); (try clear hi)))
                              go_ret
                              exact ⟨by first | rfl | (simp [errW_none, errW_some] <;> rfl) | (simp [*, errW_none, errW_some] <;> rfl), by repeat (first | (with_reducible first | exact HB.out | apply below_alloc | apply pw_below_drewN | apply below_drew1 | refine below_set ?_ GE543.out) | exact HB.out)⟩
                            · rw [if_neg c64] at H
                              have c64b0 : (t578 == 0) = false := beq_eq_false_iff_ne.mpr c64
                              have c64b1 : (t578 != 0) = true := bne_iff_ne.mpr c64
                              by_cases c67 : t578 = 3
                              · rw [if_pos c67] at H
                                have c67b0 : (t578 == 3) = true := beq_iff_eq.mpr c67
                                have c67b1 : (t578 != 3) = false := bne_eq_false_iff_eq.mpr c67
                                clear c67
                                replace H := Option.bind_eq_some_iff.mp H
                                obtain ⟨t580, A680, H⟩ := H
                                replace H : (some t580) = some r := H
                                have A68 := Aside0.mk A680
                                clear A680
                                obtain rfl := Option.some.inj H
                                go_wp2_with (first | (go_at_call 20; (with_reducible refine (sackbutlaw04_awake.calls  t580 _ A68.out).mono ?_); rintro e w69 ⟨rfl, hb⟩; have n0_ := Aside0.mk (blk_below (g := gb543) (o := .cells #[.int .i64 a0_0, .int .i64 a0_1, .int .i64 a0_2] 23 (0, 0)) (by (with_reducible repeat (first | refine blk_drewN ?_ _ | refine blk_drew ?_ | refine blk_alloc ?_ _)); exact BK543.out) hb); have n1_ := Aside0.mk (below_step (by repeat (first | (with_reducible first | exact HB.out | apply below_alloc | apply pw_below_drewN | apply below_drew1 | refine below_set ?_ GE543.out) | exact HB.out)) hb); clear BK543; clear HB; have BK543 := n0_; have HB := n1_; clear n0_ n1_; (try clear hb); (try clear hb2); (try clear hk); (try clear hi)))
                                go_ret
                                exact ⟨by first | rfl | (simp [errW_none, errW_some] <;> rfl) | (simp [*, errW_none, errW_some] <;> rfl), by repeat (first | (with_reducible first | exact HB.out | apply below_alloc | apply pw_below_drewN | apply below_drew1 | refine below_set ?_ GE543.out) | exact HB.out)⟩
                              · rw [if_neg c67] at H
                                have c67b0 : (t578 == 3) = false := beq_eq_false_iff_ne.mpr c67
                                have c67b1 : (t578 != 3) = true := bne_iff_ne.mpr c67
                                obtain rfl := Option.some.inj H
                                go_wp2
                                go_ret
                                exact ⟨by first | rfl | (simp [errW_none, errW_some] <;> rfl) | (simp [*, errW_none, errW_some] <;> rfl), by repeat (first | (with_reducible first | exact HB.out | apply below_alloc | apply pw_below_drewN | apply below_drew1 | refine below_set ?_ GE543.out) | exact HB.out)⟩
                          · replace c63 := Bool.eq_false_iff.mpr c63
                            subst c63
                            have H1 : ((sackbutlaw04_Of.f a0_0 a0_1 a0_2).bind fun bt581 => ((triads_Alike.f bt581.1 bt581.2.1 bt581.2.2 t565 a3).bind fun bt584 => (if bt584.1 = true then (if bt584.2 = 0 then (if (t565.size : Int) ≤ (a3.size : Int) then (if (t565.size : Int) < (a3.size : Int) then ((sackbutlaw04_awake.f).bind fun t586 => (some t586)) else (if ((Op.bytesLess a3.toList t565.toList) = true) then (some false) else ((sackbutlaw04_awake.f).bind fun t587 => (some t587)))) else (some false)) else (some false)) else (some false)))) = some r := by rw [if_neg (show ¬ (false = true) by decide)] at H; exact H
                            clear H
                            have H := H1
                            clear H1
                            replace H := Option.bind_eq_some_iff.mp H
                            obtain ⟨⟨t581, t582, t583⟩, A700, H⟩ := H
                            replace H : ((triads_Alike.f t581 t582 t583 t565 a3).bind fun bt584 => (if bt584.1 = true then (if bt584.2 = 0 then (if (t565.size : Int) ≤ (a3.size : Int) then (if (t565.size : Int) < (a3.size : Int) then ((sackbutlaw04_awake.f).bind fun t586 => (some t586)) else (if ((Op.bytesLess a3.toList t565.toList) = true) then (some false) else ((sackbutlaw04_awake.f).bind fun t587 => (some t587)))) else (some false)) else (some false)) else (some false))) = some r := H
                            have A70 := Aside0.mk A700
                            clear A700
                            replace H := Option.bind_eq_some_iff.mp H
                            obtain ⟨⟨t584, t585⟩, A710, H⟩ := H
                            replace H : (if t584 = true then (if t585 = 0 then (if (t565.size : Int) ≤ (a3.size : Int) then (if (t565.size : Int) < (a3.size : Int) then ((sackbutlaw04_awake.f).bind fun t586 => (some t586)) else (if ((Op.bytesLess a3.toList t565.toList) = true) then (some false) else ((sackbutlaw04_awake.f).bind fun t587 => (some t587)))) else (some false)) else (some false)) else (some false)) = some r := H
                            have A71 := Aside0.mk A710
                            clear A710
                            by_cases c72 : t584 = true
                            · subst c72
                              have H1 : (if t585 = 0 then (if (t565.size : Int) ≤ (a3.size : Int) then (if (t565.size : Int) < (a3.size : Int) then ((sackbutlaw04_awake.f).bind fun t586 => (some t586)) else (if ((Op.bytesLess a3.toList t565.toList) = true) then (some false) else ((sackbutlaw04_awake.f).bind fun t587 => (some t587)))) else (some false)) else (some false)) = some r := by rw [if_pos rfl] at H; exact H
                              clear H
                              have H := H1
                              clear H1
                              by_cases c73 : t585 = 0
                              · rw [if_pos c73] at H
                                have c73b0 : (t585 == 0) = true := beq_iff_eq.mpr c73
                                have c73b1 : (t585 != 0) = false := bne_eq_false_iff_eq.mpr c73
                                clear c73
                                by_cases c74 : (t565.size : Int) ≤ (a3.size : Int)
                                · rw [if_pos c74] at H
                                  have c74b0 : decide ((t565.size : Int) ≤ (a3.size : Int)) = true := decide_eq_true c74
                                  have c74b1 : decide (t565.size ≤ a3.size) = true := decide_eq_true (Int.ofNat_le.mp c74)
                                  clear c74
                                  by_cases c75 : (t565.size : Int) < (a3.size : Int)
                                  · rw [if_pos c75] at H
                                    have c75b0 : decide ((t565.size : Int) < (a3.size : Int)) = true := decide_eq_true c75
                                    have c75b1 : decide (t565.size < a3.size) = true := decide_eq_true (Int.ofNat_lt.mp c75)
                                    clear c75
                                    replace H := Option.bind_eq_some_iff.mp H
                                    obtain ⟨t586, A760, H⟩ := H
                                    replace H : (some t586) = some r := H
                                    have A76 := Aside0.mk A760
                                    clear A760
                                    obtain rfl := Option.some.inj H
                                    have hcz77_0 : wc.cell? ⟨gb543, 0, none⟩ = some (.int .i64 a0_0) := (blk_cell BK543.out 0).trans rfl
                                    have hcz77_1 : wc.cell? ⟨gb543, 1, none⟩ = some (.int .i64 a0_1) := (blk_cell BK543.out 1).trans rfl
                                    have hcz77_2 : wc.cell? ⟨gb543, 2, none⟩ = some (.int .i64 a0_2) := (blk_cell BK543.out 2).trans rfl
                                    have hfz77_0 := blk_frozen BK543.out 0
                                    have hfz77_1 := blk_frozen BK543.out 1
                                    have hfz77_2 := blk_frozen BK543.out 2
                                    go_wp2_with (first | ((with_reducible refine gate_callee (f := 17) rfl ?_); refine goesL_ (some 131) rfl rfl Tryd.func17 (by kernel_rfl) rfl #[.agg #[.int .i64 a0_0, .int .i64 a0_1, .int .i64 a0_2]] rfl (by (try simp only [List.map_toArray, List.map_cons, List.map_nil]); first | done | rfl | (simp only [List.length_drop, List.length_take]; rfl)) ?_; (with_reducible refine (sackbutlaw04_Of.calls a0_0 a0_1 a0_2 t581 t582 t583 _ A70.out).mono ?_); rintro e w78 ⟨rfl, hb⟩; refine ⟨_, rfl, ?_⟩; have n0_ := Aside0.mk (blk_below (g := gb543) (o := .cells #[.int .i64 a0_0, .int .i64 a0_1, .int .i64 a0_2] 23 (0, 0)) (by (with_reducible repeat (first | refine blk_drewN ?_ _ | refine blk_drew ?_ | refine blk_alloc ?_ _)); exact BK543.out) hb); have n1_ := Aside0.mk (below_step (by repeat (first | (with_reducible first | exact HB.out | apply below_alloc | apply pw_below_drewN | apply below_drew1 | refine below_set ?_ GE543.out) | exact HB.out)) hb); clear BK543; clear HB; have BK543 := n0_; have HB := n1_; clear n0_ n1_; (try clear hb); (try clear hb2); (try clear hk); (try clear hi)) | ((with_reducible refine gate_callee (f := 41) rfl ?_); refine goesL_ (some 134) rfl rfl Tryd.func41 (by kernel_rfl) rfl #[.agg #[.int .i64 t581, .int .i64 t582, .int .i64 t583], .string t565, .string a3] rfl (by (try simp only [List.map_toArray, List.map_cons, List.map_nil]); first | done | rfl | (simp only [List.length_drop, List.length_take]; rfl)) ?_; (with_reducible refine (triads_Alike.calls t581 t582 t583 t565 a3 true t585 _ A71.out).mono ?_); rintro e w79 ⟨rfl, hb⟩; refine ⟨_, rfl, ?_⟩; have n0_ := Aside0.mk (blk_below (g := gb543) (o := .cells #[.int .i64 a0_0, .int .i64 a0_1, .int .i64 a0_2] 23 (0, 0)) (by (with_reducible repeat (first | refine blk_drewN ?_ _ | refine blk_drew ?_ | refine blk_alloc ?_ _)); exact BK543.out) hb); have n1_ := Aside0.mk (below_step (by repeat (first | (with_reducible first | exact HB.out | apply below_alloc | apply pw_below_drewN | apply below_drew1 | refine below_set ?_ GE543.out) | exact HB.out)) hb); clear BK543; clear HB; have BK543 := n0_; have HB := n1_; clear n0_ n1_; (try clear hb); (try clear hb2); (try clear hk); (try clear hi)) | (go_at_call 20; (with_reducible refine (sackbutlaw04_awake.calls  t586 _ A76.out).mono ?_); rintro e w80 ⟨rfl, hb⟩; have n0_ := Aside0.mk (blk_below (g := gb543) (o := .cells #[.int .i64 a0_0, .int .i64 a0_1, .int .i64 a0_2] 23 (0, 0)) (by (with_reducible repeat (first | refine blk_drewN ?_ _ | refine blk_drew ?_ | refine blk_alloc ?_ _)); exact BK543.out) hb); have n1_ := Aside0.mk (below_step (by repeat (first | (with_reducible first | exact HB.out | apply below_alloc | apply pw_below_drewN | apply below_drew1 | refine below_set ?_ GE543.out) | exact HB.out)) hb); clear BK543; clear HB; have BK543 := n0_; have HB := n1_; clear n0_ n1_; (try clear hb); (try clear hb2); (try clear hk); (try clear hi)))
                                    go_ret
                                    exact ⟨by first | rfl | (simp [errW_none, errW_some] <;> rfl) | (simp [*, errW_none, errW_some] <;> rfl), by repeat (first | (with_reducible first | exact HB.out | apply below_alloc | apply pw_below_drewN | apply below_drew1 | refine below_set ?_ GE543.out) | exact HB.out)⟩
                                  · rw [if_neg c75] at H
                                    have c75b0 : decide ((t565.size : Int) < (a3.size : Int)) = false := decide_eq_false c75
                                    have c75b1 : decide (t565.size < a3.size) = false := decide_eq_false (fun h => c75 (Int.ofNat_lt.mpr h))
                                    clear c75
                                    by_cases c81 : ((Op.bytesLess a3.toList t565.toList) = true)
                                    · rw [if_pos c81] at H
                                      have c81b0 : (Op.bytesLess a3.toList t565.toList) = true := c81
                                      have c81b9 := StrLe.str_le_false c81b0
                                      clear c81
                                      obtain rfl := Option.some.inj H
                                      have hcz82_0 : wc.cell? ⟨gb543, 0, none⟩ = some (.int .i64 a0_0) := (blk_cell BK543.out 0).trans rfl
                                      have hcz82_1 : wc.cell? ⟨gb543, 1, none⟩ = some (.int .i64 a0_1) := (blk_cell BK543.out 1).trans rfl
                                      have hcz82_2 : wc.cell? ⟨gb543, 2, none⟩ = some (.int .i64 a0_2) := (blk_cell BK543.out 2).trans rfl
                                      have hfz82_0 := blk_frozen BK543.out 0
                                      have hfz82_1 := blk_frozen BK543.out 1
                                      have hfz82_2 := blk_frozen BK543.out 2
                                      go_wp2_with (first | ((with_reducible refine gate_callee (f := 17) rfl ?_); refine goesL_ (some 131) rfl rfl Tryd.func17 (by kernel_rfl) rfl #[.agg #[.int .i64 a0_0, .int .i64 a0_1, .int .i64 a0_2]] rfl (by (try simp only [List.map_toArray, List.map_cons, List.map_nil]); first | done | rfl | (simp only [List.length_drop, List.length_take]; rfl)) ?_; (with_reducible refine (sackbutlaw04_Of.calls a0_0 a0_1 a0_2 t581 t582 t583 _ A70.out).mono ?_); rintro e w83 ⟨rfl, hb⟩; refine ⟨_, rfl, ?_⟩; have n0_ := Aside0.mk (blk_below (g := gb543) (o := .cells #[.int .i64 a0_0, .int .i64 a0_1, .int .i64 a0_2] 23 (0, 0)) (by (with_reducible repeat (first | refine blk_drewN ?_ _ | refine blk_drew ?_ | refine blk_alloc ?_ _)); exact BK543.out) hb); have n1_ := Aside0.mk (below_step (by repeat (first | (with_reducible first | exact HB.out | apply below_alloc | apply pw_below_drewN | apply below_drew1 | refine below_set ?_ GE543.out) | exact HB.out)) hb); clear BK543; clear HB; have BK543 := n0_; have HB := n1_; clear n0_ n1_; (try clear hb); (try clear hb2); (try clear hk); (try clear hi)) | ((with_reducible refine gate_callee (f := 41) rfl ?_); refine goesL_ (some 134) rfl rfl Tryd.func41 (by kernel_rfl) rfl #[.agg #[.int .i64 t581, .int .i64 t582, .int .i64 t583], .string t565, .string a3] rfl (by (try simp only [List.map_toArray, List.map_cons, List.map_nil]); first | done | rfl | (simp only [List.length_drop, List.length_take]; rfl)) ?_; (with_reducible refine (triads_Alike.calls t581 t582 t583 t565 a3 true t585 _ A71.out).mono ?_); rintro e w84 ⟨rfl, hb⟩; refine ⟨_, rfl, ?_⟩; have n0_ := Aside0.mk (blk_below (g := gb543) (o := .cells #[.int .i64 a0_0, .int .i64 a0_1, .int .i64 a0_2] 23 (0, 0)) (by (with_reducible repeat (first | refine blk_drewN ?_ _ | refine blk_drew ?_ | refine blk_alloc ?_ _)); exact BK543.out) hb); have n1_ := Aside0.mk (below_step (by repeat (first | (with_reducible first | exact HB.out | apply below_alloc | apply pw_below_drewN | apply below_drew1 | refine below_set ?_ GE543.out) | exact HB.out)) hb); clear BK543; clear HB; have BK543 := n0_; have HB := n1_; clear n0_ n1_; (try clear hb); (try clear hb2); (try clear hk); (try clear hi)))
                                      go_ret
                                      exact ⟨by first | rfl | (simp [errW_none, errW_some] <;> rfl) | (simp [*, errW_none, errW_some] <;> rfl), by repeat (first | (with_reducible first | exact HB.out | apply below_alloc | apply pw_below_drewN | apply below_drew1 | refine below_set ?_ GE543.out) | exact HB.out)⟩
                                    · rw [if_neg c81] at H
                                      have c81b0 : (Op.bytesLess a3.toList t565.toList) = false := by simpa using c81
                                      have c81b9 := StrLe.str_le_true c81b0
                                      clear c81
                                      replace H := Option.bind_eq_some_iff.mp H
                                      obtain ⟨t587, A850, H⟩ := H
                                      replace H : (some t587) = some r := H
                                      have A85 := Aside0.mk A850
                                      clear A850
                                      obtain rfl := Option.some.inj H
                                      have hcz86_0 : wc.cell? ⟨gb543, 0, none⟩ = some (.int .i64 a0_0) := (blk_cell BK543.out 0).trans rfl
                                      have hcz86_1 : wc.cell? ⟨gb543, 1, none⟩ = some (.int .i64 a0_1) := (blk_cell BK543.out 1).trans rfl
                                      have hcz86_2 : wc.cell? ⟨gb543, 2, none⟩ = some (.int .i64 a0_2) := (blk_cell BK543.out 2).trans rfl
                                      have hfz86_0 := blk_frozen BK543.out 0
                                      have hfz86_1 := blk_frozen BK543.out 1
                                      have hfz86_2 := blk_frozen BK543.out 2
                                      go_wp2_with (first | ((with_reducible refine gate_callee (f := 17) rfl ?_); refine goesL_ (some 131) rfl rfl Tryd.func17 (by kernel_rfl) rfl #[.agg #[.int .i64 a0_0, .int .i64 a0_1, .int .i64 a0_2]] rfl (by (try simp only [List.map_toArray, List.map_cons, List.map_nil]); first | done | rfl | (simp only [List.length_drop, List.length_take]; rfl)) ?_; (with_reducible refine (sackbutlaw04_Of.calls a0_0 a0_1 a0_2 t581 t582 t583 _ A70.out).mono ?_); rintro e w87 ⟨rfl, hb⟩; refine ⟨_, rfl, ?_⟩; have n0_ := Aside0.mk (blk_below (g := gb543) (o := .cells #[.int .i64 a0_0, .int .i64 a0_1, .int .i64 a0_2] 23 (0, 0)) (by (with_reducible repeat (first | refine blk_drewN ?_ _ | refine blk_drew ?_ | refine blk_alloc ?_ _)); exact BK543.out) hb); have n1_ := Aside0.mk (below_step (by repeat (first | (with_reducible first | exact HB.out | apply below_alloc | apply pw_below_drewN | apply below_drew1 | refine below_set ?_ GE543.out) | exact HB.out)) hb); clear BK543; clear HB; have BK543 := n0_; have HB := n1_; clear n0_ n1_; (try clear hb); (try clear hb2); (try clear hk); (try clear hi)) | ((with_reducible refine gate_callee (f := 41) rfl ?_); refine goesL_ (some 134) rfl rfl Tryd.func41 (by kernel_rfl) rfl #[.agg #[.int .i64 t581, .int .i64 t582, .int .i64 t583], .string t565, .string a3] rfl (by (try simp only [List.map_toArray, List.map_cons, List.map_nil]); first | done | rfl | (simp only [List.length_drop, List.length_take]; rfl)) ?_; (with_reducible refine (triads_Alike.calls t581 t582 t583 t565 a3 true t585 _ A71.out).mono ?_); rintro e w88 ⟨rfl, hb⟩; refine ⟨_, rfl, ?_⟩; have n0_ := Aside0.mk (blk_below (g := gb543) (o := .cells #[.int .i64 a0_0, .int .i64 a0_1, .int .i64 a0_2] 23 (0, 0)) (by (with_reducible repeat (first | refine blk_drewN ?_ _ | refine blk_drew ?_ | refine blk_alloc ?_ _)); exact BK543.out) hb); have n1_ := Aside0.mk (below_step (by repeat (first | (with_reducible first | exact HB.out | apply below_alloc | apply pw_below_drewN | apply below_drew1 | refine below_set ?_ GE543.out) | exact HB.out)) hb); clear BK543; clear HB; have BK543 := n0_; have HB := n1_; clear n0_ n1_; (try clear hb); (try clear hb2); (try clear hk); (try clear hi)) | (go_at_call 20; (with_reducible refine (sackbutlaw04_awake.calls  t587 _ A85.out).mono ?_); rintro e w89 ⟨rfl, hb⟩; have n0_ := Aside0.mk (blk_below (g := gb543) (o := .cells #[.int .i64 a0_0, .int .i64 a0_1, .int .i64 a0_2] 23 (0, 0)) (by (with_reducible repeat (first | refine blk_drewN ?_ _ | refine blk_drew ?_ | refine blk_alloc ?_ _)); exact BK543.out) hb); have n1_ := Aside0.mk (below_step (by repeat (first | (with_reducible first | exact HB.out | apply below_alloc | apply pw_below_drewN | apply below_drew1 | refine below_set ?_ GE543.out) | exact HB.out)) hb); clear BK543; clear HB; have BK543 := n0_; have HB := n1_; clear n0_ n1_; (try clear hb); (try clear hb2); (try clear hk); (try clear hi)))
                                      go_ret
                                      exact ⟨by first | rfl | (simp [errW_none, errW_some] <;> rfl) | (simp [*, errW_none, errW_some] <;> rfl), by repeat (first | (with_reducible first | exact HB.out | apply below_alloc | apply pw_below_drewN | apply below_drew1 | refine below_set ?_ GE543.out) | exact HB.out)⟩
                                · rw [if_neg c74] at H
                                  have c74b0 : decide ((t565.size : Int) ≤ (a3.size : Int)) = false := decide_eq_false c74
                                  have c74b1 : decide (t565.size ≤ a3.size) = false := decide_eq_false (fun h => c74 (Int.ofNat_le.mpr h))
                                  clear c74
                                  obtain rfl := Option.some.inj H
                                  have hcz90_0 : wc.cell? ⟨gb543, 0, none⟩ = some (.int .i64 a0_0) := (blk_cell BK543.out 0).trans rfl
                                  have hcz90_1 : wc.cell? ⟨gb543, 1, none⟩ = some (.int .i64 a0_1) := (blk_cell BK543.out 1).trans rfl
                                  have hcz90_2 : wc.cell? ⟨gb543, 2, none⟩ = some (.int .i64 a0_2) := (blk_cell BK543.out 2).trans rfl
                                  have hfz90_0 := blk_frozen BK543.out 0
                                  have hfz90_1 := blk_frozen BK543.out 1
                                  have hfz90_2 := blk_frozen BK543.out 2
                                  go_wp2_with (first | ((with_reducible refine gate_callee (f := 17) rfl ?_); refine goesL_ (some 131) rfl rfl Tryd.func17 (by kernel_rfl) rfl #[.agg #[.int .i64 a0_0, .int .i64 a0_1, .int .i64 a0_2]] rfl (by (try simp only [List.map_toArray, List.map_cons, List.map_nil]); first | done | rfl | (simp only [List.length_drop, List.length_take]; rfl)) ?_; (with_reducible refine (sackbutlaw04_Of.calls a0_0 a0_1 a0_2 t581 t582 t583 _ A70.out).mono ?_); rintro e w91 ⟨rfl, hb⟩; refine ⟨_, rfl, ?_⟩; have n0_ := Aside0.mk (blk_below (g := gb543) (o := .cells #[.int .i64 a0_0, .int .i64 a0_1, .int .i64 a0_2] 23 (0, 0)) (by (with_reducible repeat (first | refine blk_drewN ?_ _ | refine blk_drew ?_ | refine blk_alloc ?_ _)); exact BK543.out) hb); have n1_ := Aside0.mk (below_step (by repeat (first | (with_reducible first | exact HB.out | apply below_alloc | apply pw_below_drewN | apply below_drew1 | refine below_set ?_ GE543.out) | exact HB.out)) hb); clear BK543; clear HB; have BK543 := n0_; have HB := n1_; clear n0_ n1_; (try clear hb); (try clear hb2); (try clear hk); (try clear hi)) | ((with_reducible refine gate_callee (f := 41) rfl ?_); refine goesL_ (some 134) rfl rfl Tryd.func41 (by kernel_rfl) rfl #[.agg #[.int .i64 t581, .int .i64 t582, .int .i64 t583], .string t565, .string a3] rfl (by (try simp only [List.map_toArray, List.map_cons, List.map_nil]); first | done | rfl | (simp only [List.length_drop, List.length_take]; rfl)) ?_; (with_reducible refine (triads_Alike.calls t581 t582 t583 t565 a3 true t585 _ A71.out).mono ?_); rintro e w92 ⟨rfl, hb⟩; refine ⟨_, rfl, ?_⟩; have n0_ := Aside0.mk (blk_below (g := gb543) (o := .cells #[.int .i64 a0_0, .int .i64 a0_1, .int .i64 a0_2] 23 (0, 0)) (by (with_reducible repeat (first | refine blk_drewN ?_ _ | refine blk_drew ?_ | refine blk_alloc ?_ _)); exact BK543.out) hb); have n1_ := Aside0.mk (below_step (by repeat (first | (with_reducible first | exact HB.out | apply below_alloc | apply pw_below_drewN | apply below_drew1 | refine below_set ?_ GE543.out) | exact HB.out)) hb); clear BK543; clear HB; have BK543 := n0_; have HB := n1_; clear n0_ n1_; (try clear hb); (try clear hb2); (try clear hk); (try clear hi)))
                                  go_ret
                                  exact ⟨by first | rfl | (simp [errW_none, errW_some] <;> rfl) | (simp [*, errW_none, errW_some] <;> rfl), by repeat (first | (with_reducible first | exact HB.out | apply below_alloc | apply pw_below_drewN | apply below_drew1 | refine below_set ?_ GE543.out) | exact HB.out)⟩
                              · rw [if_neg c73] at H
                                have c73b0 : (t585 == 0) = false := beq_eq_false_iff_ne.mpr c73
                                have c73b1 : (t585 != 0) = true := bne_iff_ne.mpr c73
                                obtain rfl := Option.some.inj H
                                have hcz93_0 : wc.cell? ⟨gb543, 0, none⟩ = some (.int .i64 a0_0) := (blk_cell BK543.out 0).trans rfl
                                have hcz93_1 : wc.cell? ⟨gb543, 1, none⟩ = some (.int .i64 a0_1) := (blk_cell BK543.out 1).trans rfl
                                have hcz93_2 : wc.cell? ⟨gb543, 2, none⟩ = some (.int .i64 a0_2) := (blk_cell BK543.out 2).trans rfl
                                have hfz93_0 := blk_frozen BK543.out 0
                                have hfz93_1 := blk_frozen BK543.out 1
                                have hfz93_2 := blk_frozen BK543.out 2
                                go_wp2_with (first | ((with_reducible refine gate_callee (f := 17) rfl ?_); refine goesL_ (some 131) rfl rfl Tryd.func17 (by kernel_rfl) rfl #[.agg #[.int .i64 a0_0, .int .i64 a0_1, .int .i64 a0_2]] rfl (by (try simp only [List.map_toArray, List.map_cons, List.map_nil]); first | done | rfl | (simp only [List.length_drop, List.length_take]; rfl)) ?_; (with_reducible refine (sackbutlaw04_Of.calls a0_0 a0_1 a0_2 t581 t582 t583 _ A70.out).mono ?_); rintro e w94 ⟨rfl, hb⟩; refine ⟨_, rfl, ?_⟩; have n0_ := Aside0.mk (blk_below (g := gb543) (o := .cells #[.int .i64 a0_0, .int .i64 a0_1, .int .i64 a0_2] 23 (0, 0)) (by (with_reducible repeat (first | refine blk_drewN ?_ _ | refine blk_drew ?_ | refine blk_alloc ?_ _)); exact BK543.out) hb); have n1_ := Aside0.mk (below_step (by repeat (first | (with_reducible first | exact HB.out | apply below_alloc | apply pw_below_drewN | apply below_drew1 | refine below_set ?_ GE543.out) | exact HB.out)) hb); clear BK543; clear HB; have BK543 := n0_; have HB := n1_; clear n0_ n1_; (try clear hb); (try clear hb2); (try clear hk); (try clear hi)) | ((with_reducible refine gate_callee (f := 41) rfl ?_); refine goesL_ (some 134) rfl rfl Tryd.func41 (by kernel_rfl) rfl #[.agg #[.int .i64 t581, .int .i64 t582, .int .i64 t583], .string t565, .string a3] rfl (by (try simp only [List.map_toArray, List.map_cons, List.map_nil]); first | done | rfl | (simp only [List.length_drop, List.length_take]; rfl)) ?_; (with_reducible refine (triads_Alike.calls t581 t582 t583 t565 a3 true t585 _ A71.out).mono ?_); rintro e w95 ⟨rfl, hb⟩; refine ⟨_, rfl, ?_⟩; have n0_ := Aside0.mk (blk_below (g := gb543) (o := .cells #[.int .i64 a0_0, .int .i64 a0_1, .int .i64 a0_2] 23 (0, 0)) (by (with_reducible repeat (first | refine blk_drewN ?_ _ | refine blk_drew ?_ | refine blk_alloc ?_ _)); exact BK543.out) hb); have n1_ := Aside0.mk (below_step (by repeat (first | (with_reducible first | exact HB.out | apply below_alloc | apply pw_below_drewN | apply below_drew1 | refine below_set ?_ GE543.out) | exact HB.out)) hb); clear BK543; clear HB; have BK543 := n0_; have HB := n1_; clear n0_ n1_; (try clear hb); (try clear hb2); (try clear hk); (try clear hi)))
                                go_ret
                                exact ⟨by first | rfl | (simp [errW_none, errW_some] <;> rfl) | (simp [*, errW_none, errW_some] <;> rfl), by repeat (first | (with_reducible first | exact HB.out | apply below_alloc | apply pw_below_drewN | apply below_drew1 | refine below_set ?_ GE543.out) | exact HB.out)⟩
                            · replace c72 := Bool.eq_false_iff.mpr c72
                              subst c72
                              have H1 : (some false) = some r := by rw [if_neg (show ¬ (false = true) by decide)] at H; exact H
                              clear H
                              have H := H1
                              clear H1
                              obtain rfl := Option.some.inj H
                              have hcz96_0 : wc.cell? ⟨gb543, 0, none⟩ = some (.int .i64 a0_0) := (blk_cell BK543.out 0).trans rfl
                              have hcz96_1 : wc.cell? ⟨gb543, 1, none⟩ = some (.int .i64 a0_1) := (blk_cell BK543.out 1).trans rfl
                              have hcz96_2 : wc.cell? ⟨gb543, 2, none⟩ = some (.int .i64 a0_2) := (blk_cell BK543.out 2).trans rfl
                              have hfz96_0 := blk_frozen BK543.out 0
                              have hfz96_1 := blk_frozen BK543.out 1
                              have hfz96_2 := blk_frozen BK543.out 2
                              go_wp2_with (first | ((with_reducible refine gate_callee (f := 17) rfl ?_); refine goesL_ (some 131) rfl rfl Tryd.func17 (by kernel_rfl) rfl #[.agg #[.int .i64 a0_0, .int .i64 a0_1, .int .i64 a0_2]] rfl (by (try simp only [List.map_toArray, List.map_cons, List.map_nil]); first | done | rfl | (simp only [List.length_drop, List.length_take]; rfl)) ?_; (with_reducible refine (sackbutlaw04_Of.calls a0_0 a0_1 a0_2 t581 t582 t583 _ A70.out).mono ?_); rintro e w97 ⟨rfl, hb⟩; refine ⟨_, rfl, ?_⟩; have n0_ := Aside0.mk (blk_below (g := gb543) (o := .cells #[.int .i64 a0_0, .int .i64 a0_1, .int .i64 a0_2] 23 (0, 0)) (by (with_reducible repeat (first | refine blk_drewN ?_ _ | refine blk_drew ?_ | refine blk_alloc ?_ _)); exact BK543.out) hb); have n1_ := Aside0.mk (below_step (by repeat (first | (with_reducible first | exact HB.out | apply below_alloc | apply pw_below_drewN | apply below_drew1 | refine below_set ?_ GE543.out) | exact HB.out)) hb); clear BK543; clear HB; have BK543 := n0_; have HB := n1_; clear n0_ n1_; (try clear hb); (try clear hb2); (try clear hk); (try clear hi)) | ((with_reducible refine gate_callee (f := 41) rfl ?_); refine goesL_ (some 134) rfl rfl Tryd.func41 (by kernel_rfl) rfl #[.agg #[.int .i64 t581, .int .i64 t582, .int .i64 t583], .string t565, .string a3] rfl (by (try simp only [List.map_toArray, List.map_cons, List.map_nil]); first | done | rfl | (simp only [List.length_drop, List.length_take]; rfl)) ?_; (with_reducible refine (triads_Alike.calls t581 t582 t583 t565 a3 false t585 _ A71.out).mono ?_); rintro e w98 ⟨rfl, hb⟩; refine ⟨_, rfl, ?_⟩; have n0_ := Aside0.mk (blk_below (g := gb543) (o := .cells #[.int .i64 a0_0, .int .i64 a0_1, .int .i64 a0_2] 23 (0, 0)) (by (with_reducible repeat (first | refine blk_drewN ?_ _ | refine blk_drew ?_ | refine blk_alloc ?_ _)); exact BK543.out) hb); have n1_ := Aside0.mk (below_step (by repeat (first | (with_reducible first | exact HB.out | apply below_alloc | apply pw_below_drewN | apply below_drew1 | refine below_set ?_ GE543.out) | exact HB.out)) hb); clear BK543; clear HB; have BK543 := n0_; have HB := n1_; clear n0_ n1_; (try clear hb); (try clear hb2); (try clear hk); (try clear hi)))
                              go_ret
                              exact ⟨by first | rfl | (simp [errW_none, errW_some] <;> rfl) | (simp [*, errW_none, errW_some] <;> rfl), by repeat (first | (with_reducible first | exact HB.out | apply below_alloc | apply pw_below_drewN | apply below_drew1 | refine below_set ?_ GE543.out) | exact HB.out)⟩
              · rw [if_neg c42] at H
                have c42b0 : (t566 == 0) = false := beq_eq_false_iff_ne.mpr c42
                have c42b1 : (t566 != 0) = true := bne_iff_ne.mpr c42
                by_cases c99 : t566 = 4
                · rw [if_pos c99] at H
                  have c99b0 : (t566 == 4) = true := beq_iff_eq.mpr c99
                  have c99b1 : (t566 != 4) = false := bne_eq_false_iff_eq.mpr c99
                  clear c99
                  by_cases c100 : t547 < (wrap64 (2 * a0_0))
                  · rw [if_pos c100] at H
                    have c100b0 : decide (t547 < (wrap64 (2 * a0_0))) = true := decide_eq_true c100
                    clear c100
                    replace H := Option.bind_eq_some_iff.mp H
                    obtain ⟨t567, A1010, H⟩ := H
                    replace H : (some t567) = some r := H
                    have A101 := Aside0.mk A1010
                    clear A1010
                    obtain rfl := Option.some.inj H
                    have hcz102_0 : wc.cell? ⟨gb543, 0, none⟩ = some (.int .i64 a0_0) := (blk_cell BK543.out 0).trans rfl
                    have hcz102_1 : wc.cell? ⟨gb543, 1, none⟩ = some (.int .i64 a0_1) := (blk_cell BK543.out 1).trans rfl
                    have hcz102_2 : wc.cell? ⟨gb543, 2, none⟩ = some (.int .i64 a0_2) := (blk_cell BK543.out 2).trans rfl
                    have hfz102_0 := blk_frozen BK543.out 0
                    have hfz102_1 := blk_frozen BK543.out 1
                    have hfz102_2 := blk_frozen BK543.out 2
                    go_wp2_with (first | ((with_reducible refine gate_callee (f := 17) rfl ?_); refine goesL_ (some 69) rfl rfl Tryd.func17 (by kernel_rfl) rfl #[.agg #[.int .i64 a0_0, .int .i64 a0_1, .int .i64 a0_2]] rfl (by (try simp only [List.map_toArray, List.map_cons, List.map_nil]); first | done | rfl | (simp only [List.length_drop, List.length_take]; rfl)) ?_; (with_reducible refine (sackbutlaw04_Of.calls a0_0 a0_1 a0_2 t562 t563 t564 _ A40.out).mono ?_); rintro e w103 ⟨rfl, hb⟩; refine ⟨_, rfl, ?_⟩; have n0_ := Aside0.mk (blk_below (g := gb543) (o := .cells #[.int .i64 a0_0, .int .i64 a0_1, .int .i64 a0_2] 23 (0, 0)) (by (with_reducible repeat (first | refine blk_drewN ?_ _ | refine blk_drew ?_ | refine blk_alloc ?_ _)); exact BK543.out) hb); have n1_ := Aside0.mk (below_step (by repeat (first | (with_reducible first | exact HB.out | apply below_alloc | apply pw_below_drewN | apply below_drew1 | refine below_set ?_ GE543.out) | exact HB.out)) hb); clear BK543; clear HB; have BK543 := n0_; have HB := n1_; clear n0_ n1_; (try clear hb); (try clear hb2); (try clear hk); (try clear hi)) | ((with_reducible refine gate_callee (f := 37) rfl ?_); refine goesL_ (some 72) rfl rfl Tryd.func37 (by kernel_rfl) rfl #[.agg #[.int .i64 t562, .int .i64 t563, .int .i64 t564], .int .i64 a1, .int .i64 a2] rfl (by (try simp only [List.map_toArray, List.map_cons, List.map_nil]); first | done | rfl | (simp only [List.length_drop, List.length_take]; rfl)) ?_; (with_reducible refine (triads_Way.calls t562 t563 t564 a1 a2 t565 t566 _ A41.out).mono ?_); rintro e w104 ⟨rfl, hb⟩; refine ⟨_, rfl, ?_⟩; have n0_ := Aside0.mk (blk_below (g := gb543) (o := .cells #[.int .i64 a0_0, .int .i64 a0_1, .int .i64 a0_2] 23 (0, 0)) (by (with_reducible repeat (first | refine blk_drewN ?_ _ | refine blk_drew ?_ | refine blk_alloc ?_ _)); exact BK543.out) hb); have n1_ := Aside0.mk (below_step (by repeat (first | (with_reducible first | exact HB.out | apply below_alloc | apply pw_below_drewN | apply below_drew1 | refine below_set ?_ GE543.out) | exact HB.out)) hb); clear BK543; clear HB; have BK543 := n0_; have HB := n1_; clear n0_ n1_; (try clear hb); (try clear hb2); (try clear hk); (try clear hi); have hcz105_0 : w104.cell? ⟨gb543, 0, none⟩ = some (.int .i64 a0_0) := (blk_cell BK543.out 0).trans rfl; have hcz105_1 : w104.cell? ⟨gb543, 1, none⟩ = some (.int .i64 a0_1) := (blk_cell BK543.out 1).trans rfl; have hcz105_2 : w104.cell? ⟨gb543, 2, none⟩ = some (.int .i64 a0_2) := (blk_cell BK543.out 2).trans rfl; have hfz105_0 := blk_frozen BK543.out 0; have hfz105_1 := blk_frozen BK543.out 1; have hfz105_2 := blk_frozen BK543.out 2) | (go_at_call 20; (with_reducible refine (sackbutlaw04_awake.calls  t567 _ A101.out).mono ?_); rintro e w106 ⟨rfl, hb⟩; have n0_ := Aside0.mk (blk_below (g := gb543) (o := .cells #[.int .i64 a0_0, .int .i64 a0_1, .int .i64 a0_2] 23 (0, 0)) (by (with_reducible repeat (first | refine blk_drewN ?_ _ | refine blk_drew ?_ | refine blk_alloc ?_ _)); exact BK543.out) hb); have n1_ := Aside0.mk (below_step (by repeat (first | (with_reducible first | exact HB.out | apply below_alloc | apply pw_below_drewN | apply below_drew1 | refine below_set ?_ GE543.out) | exact HB.out)) hb); clear BK543; clear HB; have BK543 := n0_; have HB := n1_; clear n0_ n1_; (try clear hb); (try clear hb2); (try clear hk); (try clear hi)))
                    go_ret
                    exact ⟨by first | rfl | (simp [errW_none, errW_some] <;> rfl) | (simp [*, errW_none, errW_some] <;> rfl), by repeat (first | (with_reducible first | exact HB.out | apply below_alloc | apply pw_below_drewN | apply below_drew1 | refine below_set ?_ GE543.out) | exact HB.out)⟩
                  · rw [if_neg c100] at H
                    have c100b0 : decide (t547 < (wrap64 (2 * a0_0))) = false := decide_eq_false c100
                    clear c100
                    obtain rfl := Option.some.inj H
                    have hcz107_0 : wc.cell? ⟨gb543, 0, none⟩ = some (.int .i64 a0_0) := (blk_cell BK543.out 0).trans rfl
                    have hcz107_1 : wc.cell? ⟨gb543, 1, none⟩ = some (.int .i64 a0_1) := (blk_cell BK543.out 1).trans rfl
                    have hcz107_2 : wc.cell? ⟨gb543, 2, none⟩ = some (.int .i64 a0_2) := (blk_cell BK543.out 2).trans rfl
                    have hfz107_0 := blk_frozen BK543.out 0
                    have hfz107_1 := blk_frozen BK543.out 1
                    have hfz107_2 := blk_frozen BK543.out 2
                    go_wp2_with (first | ((with_reducible refine gate_callee (f := 17) rfl ?_); refine goesL_ (some 69) rfl rfl Tryd.func17 (by kernel_rfl) rfl #[.agg #[.int .i64 a0_0, .int .i64 a0_1, .int .i64 a0_2]] rfl (by (try simp only [List.map_toArray, List.map_cons, List.map_nil]); first | done | rfl | (simp only [List.length_drop, List.length_take]; rfl)) ?_; (with_reducible refine (sackbutlaw04_Of.calls a0_0 a0_1 a0_2 t562 t563 t564 _ A40.out).mono ?_); rintro e w108 ⟨rfl, hb⟩; refine ⟨_, rfl, ?_⟩; have n0_ := Aside0.mk (blk_below (g := gb543) (o := .cells #[.int .i64 a0_0, .int .i64 a0_1, .int .i64 a0_2] 23 (0, 0)) (by (with_reducible repeat (first | refine blk_drewN ?_ _ | refine blk_drew ?_ | refine blk_alloc ?_ _)); exact BK543.out) hb); have n1_ := Aside0.mk (below_step (by repeat (first | (with_reducible first | exact HB.out | apply below_alloc | apply pw_below_drewN | apply below_drew1 | refine below_set ?_ GE543.out) | exact HB.out)) hb); clear BK543; clear HB; have BK543 := n0_; have HB := n1_; clear n0_ n1_; (try clear hb); (try clear hb2); (try clear hk); (try clear hi)) | ((with_reducible refine gate_callee (f := 37) rfl ?_); refine goesL_ (some 72) rfl rfl Tryd.func37 (by kernel_rfl) rfl #[.agg #[.int .i64 t562, .int .i64 t563, .int .i64 t564], .int .i64 a1, .int .i64 a2] rfl (by (try simp only [List.map_toArray, List.map_cons, List.map_nil]); first | done | rfl | (simp only [List.length_drop, List.length_take]; rfl)) ?_; (with_reducible refine (triads_Way.calls t562 t563 t564 a1 a2 t565 t566 _ A41.out).mono ?_); rintro e w109 ⟨rfl, hb⟩; refine ⟨_, rfl, ?_⟩; have n0_ := Aside0.mk (blk_below (g := gb543) (o := .cells #[.int .i64 a0_0, .int .i64 a0_1, .int .i64 a0_2] 23 (0, 0)) (by (with_reducible repeat (first | refine blk_drewN ?_ _ | refine blk_drew ?_ | refine blk_alloc ?_ _)); exact BK543.out) hb); have n1_ := Aside0.mk (below_step (by repeat (first | (with_reducible first | exact HB.out | apply below_alloc | apply pw_below_drewN | apply below_drew1 | refine below_set ?_ GE543.out) | exact HB.out)) hb); clear BK543; clear HB; have BK543 := n0_; have HB := n1_; clear n0_ n1_; (try clear hb); (try clear hb2); (try clear hk); (try clear hi); have hcz110_0 : w109.cell? ⟨gb543, 0, none⟩ = some (.int .i64 a0_0) := (blk_cell BK543.out 0).trans rfl; have hcz110_1 : w109.cell? ⟨gb543, 1, none⟩ = some (.int .i64 a0_1) := (blk_cell BK543.out 1).trans rfl; have hcz110_2 : w109.cell? ⟨gb543, 2, none⟩ = some (.int .i64 a0_2) := (blk_cell BK543.out 2).trans rfl; have hfz110_0 := blk_frozen BK543.out 0; have hfz110_1 := blk_frozen BK543.out 1; have hfz110_2 := blk_frozen BK543.out 2))
                    go_ret
                    exact ⟨by first | rfl | (simp [errW_none, errW_some] <;> rfl) | (simp [*, errW_none, errW_some] <;> rfl), by repeat (first | (with_reducible first | exact HB.out | apply below_alloc | apply pw_below_drewN | apply below_drew1 | refine below_set ?_ GE543.out) | exact HB.out)⟩
                · rw [if_neg c99] at H
                  have c99b0 : (t566 == 4) = false := beq_eq_false_iff_ne.mpr c99
                  have c99b1 : (t566 != 4) = true := bne_iff_ne.mpr c99
                  obtain rfl := Option.some.inj H
                  have hcz111_0 : wc.cell? ⟨gb543, 0, none⟩ = some (.int .i64 a0_0) := (blk_cell BK543.out 0).trans rfl
                  have hcz111_1 : wc.cell? ⟨gb543, 1, none⟩ = some (.int .i64 a0_1) := (blk_cell BK543.out 1).trans rfl
                  have hcz111_2 : wc.cell? ⟨gb543, 2, none⟩ = some (.int .i64 a0_2) := (blk_cell BK543.out 2).trans rfl
                  have hfz111_0 := blk_frozen BK543.out 0
                  have hfz111_1 := blk_frozen BK543.out 1
                  have hfz111_2 := blk_frozen BK543.out 2
                  go_wp2_with (first | ((with_reducible refine gate_callee (f := 17) rfl ?_); refine goesL_ (some 69) rfl rfl Tryd.func17 (by kernel_rfl) rfl #[.agg #[.int .i64 a0_0, .int .i64 a0_1, .int .i64 a0_2]] rfl (by (try simp only [List.map_toArray, List.map_cons, List.map_nil]); first | done | rfl | (simp only [List.length_drop, List.length_take]; rfl)) ?_; (with_reducible refine (sackbutlaw04_Of.calls a0_0 a0_1 a0_2 t562 t563 t564 _ A40.out).mono ?_); rintro e w112 ⟨rfl, hb⟩; refine ⟨_, rfl, ?_⟩; have n0_ := Aside0.mk (blk_below (g := gb543) (o := .cells #[.int .i64 a0_0, .int .i64 a0_1, .int .i64 a0_2] 23 (0, 0)) (by (with_reducible repeat (first | refine blk_drewN ?_ _ | refine blk_drew ?_ | refine blk_alloc ?_ _)); exact BK543.out) hb); have n1_ := Aside0.mk (below_step (by repeat (first | (with_reducible first | exact HB.out | apply below_alloc | apply pw_below_drewN | apply below_drew1 | refine below_set ?_ GE543.out) | exact HB.out)) hb); clear BK543; clear HB; have BK543 := n0_; have HB := n1_; clear n0_ n1_; (try clear hb); (try clear hb2); (try clear hk); (try clear hi)) | ((with_reducible refine gate_callee (f := 37) rfl ?_); refine goesL_ (some 72) rfl rfl Tryd.func37 (by kernel_rfl) rfl #[.agg #[.int .i64 t562, .int .i64 t563, .int .i64 t564], .int .i64 a1, .int .i64 a2] rfl (by (try simp only [List.map_toArray, List.map_cons, List.map_nil]); first | done | rfl | (simp only [List.length_drop, List.length_take]; rfl)) ?_; (with_reducible refine (triads_Way.calls t562 t563 t564 a1 a2 t565 t566 _ A41.out).mono ?_); rintro e w113 ⟨rfl, hb⟩; refine ⟨_, rfl, ?_⟩; have n0_ := Aside0.mk (blk_below (g := gb543) (o := .cells #[.int .i64 a0_0, .int .i64 a0_1, .int .i64 a0_2] 23 (0, 0)) (by (with_reducible repeat (first | refine blk_drewN ?_ _ | refine blk_drew ?_ | refine blk_alloc ?_ _)); exact BK543.out) hb); have n1_ := Aside0.mk (below_step (by repeat (first | (with_reducible first | exact HB.out | apply below_alloc | apply pw_below_drewN | apply below_drew1 | refine below_set ?_ GE543.out) | exact HB.out)) hb); clear BK543; clear HB; have BK543 := n0_; have HB := n1_; clear n0_ n1_; (try clear hb); (try clear hb2); (try clear hk); (try clear hi)))
                  go_ret
                  exact ⟨by first | rfl | (simp [errW_none, errW_some] <;> rfl) | (simp [*, errW_none, errW_some] <;> rfl), by repeat (first | (with_reducible first | exact HB.out | apply below_alloc | apply pw_below_drewN | apply below_drew1 | refine below_set ?_ GE543.out) | exact HB.out)⟩

end Go.Proofs.YtpaeobpmkdekfaaDoor.P
end

section
namespace Go.Proofs.YtpaeobpmkdekfaaDoor.Pure
open Go.RowKit Go.Proofs.YtpaeobpmkdekfaaDoor.P Go.Proofs.YtpaeobpmkdekfaaDoor.Kit Go.Proofs.YtpaeobpmkdekfaaDoor.Base Go.Proofs.YtpaeobpmkdekfaaDoorW.PrintWords Go.Proofs.YtpaeobpmkdekfaaDoorW.PrintLast Go.Proofs.YtpaeobpmkdekfaaDoor.Tri
theorem sizes_j3 {n a b : Int} (hk : isKind n a b = true) (hn : Int64 n) (ha : Int64 a) (hb : Int64 b) (w v : ByteArray) (hw : isWalkB w = true) (hv : isWalkB v = true) (hsame : same n a b w.data.toList v.data.toList = true) (hl : w.data.toList.length ≤ v.data.toList.length ∧ (w.data.toList.length < v.data.toList.length ∨ Op.bytesLess v.data.toList w.data.toList = false)) : Ev (fun k => P.sackbutlaw04_TriadsSizes.j3 k v 0 w false n a b) true := by
  have h1 := data_length w
  have h2 := data_length v
  refine Ev.done fun k => ?_
  simp only [P.sackbutlaw04_TriadsSizes.j3]
  rw [if_neg (by decide)]
  simp only [sackbutlaw04_Of.f, Option.bind_some, Alike_f n a b w v hn ha hb, hk, hw, hv, hsame, and_self, if_true, awake_f, ByteArray.toList_eq]
  rw [if_pos (by omega)]
  by_cases hlt : (w.size : Int) < (v.size : Int)
  · rw [if_pos hlt]
  · rw [if_neg hlt]
    rcases hl.2 with h | h
    · omega
    · rw [h, if_neg (by decide)]
theorem sizes_j2 {n a b : Int} (hk : isKind n a b = true) (hn : Int64 n) (ha : Int64 a) (hb : Int64 b) (s t : Int) (hs : isTri n s = true) (v w : ByteArray) (hw : isWalkB w = true) (hwt : walkI n a b w.data.toList s = t) (hl : isWalkB v = true → walkI n a b v.data.toList s = t → w.data.toList.length ≤ v.data.toList.length ∧ (w.data.toList.length < v.data.toList.length ∨ Op.bytesLess v.data.toList w.data.toList = false)) : Ev (fun k => P.sackbutlaw04_TriadsSizes.j2 k s t v w false n a b) true := by
  obtain ⟨tx, htx, hsame, hsw⟩ := text_f v
  have h2 := of_decide_eq_true hs
  cases hv : isWalkB v with
  | false =>
    refine Ev.step (f := fun k => P.sackbutlaw04_TriadsSizes.j3 k v 3 w true n a b) (fun k => ?_) (Ev.done fun k => ?_)
    · simp only [P.sackbutlaw04_TriadsSizes.j2]
      rw [if_neg (by decide)]
      simp [sackbutlaw04_Of.f, htx, walk_f n a b s tx hn ha hb, hk, hs, hsw, hv]
    · simp [P.sackbutlaw04_TriadsSizes.j3, awake_f]
  | true =>
    obtain rfl := hsame hv
    by_cases he : walkI n a b tx.data.toList s = t
    · refine Ev.step (f := fun k => P.sackbutlaw04_TriadsSizes.j3 k tx 0 w false n a b) (fun k => ?_) (sizes_j3 hk hn ha hb w tx hw hv ?_ (hl hv he))
      · simp only [P.sackbutlaw04_TriadsSizes.j2]
        rw [if_neg (by decide)]
        simp [sackbutlaw04_Of.f, htx, walk_f n a b s tx hn ha hb, hk, hs, hv, he]
      · rw [same_iff (kind_pos hk) _ _ s h2.1 h2.2, hwt, he]
        exact decide_eq_true rfl
    · have hb' : (walkI n a b tx.data.toList s != t) = true := bne_iff_ne.2 he
      refine Ev.step (f := fun k => P.sackbutlaw04_TriadsSizes.j3 k tx 0 w true n a b) (fun k => ?_) (Ev.done fun k => ?_)
      · simp only [P.sackbutlaw04_TriadsSizes.j2]
        rw [if_neg (by decide)]
        simp [sackbutlaw04_Of.f, htx, walk_f n a b s tx hn ha hb, hk, hs, hv, hb']
      · simp [P.sackbutlaw04_TriadsSizes.j3, awake_f]
theorem sizes_j1 {n a b : Int} (hk : isKind n a b = true) (hn : Int64 n) (ha : Int64 a) (hb : Int64 b) (s t : Int) (hs : isTri n s = true) (ht : isTri n t = true) (v : ByteArray) : Ev (fun k => P.sackbutlaw04_TriadsSizes.j1 k s t v ((searchL n a b [76, 80, 82] 0).length : Int) false n a b) true := by
  have h2 := of_decide_eq_true hs
  have h3 := of_decide_eq_true ht
  have h16 := (of_decide_eq_true hk).2.1
  have hn0 := kind_pos hk
  have inv := searchL_inv hk [76, 80, 82] s h2.1 h2.2
  have good := searchL_good hk [76, 80, 82] s h2.1 h2.2
  have hw := way_f n a b s t hn ha hb
  rw [hk, hs, ht] at hw
  simp only [Bool.and_self, if_true] at hw
  unfold wayV at hw
  cases hu : wordOf (searchL n a b [76, 80, 82] s) t with
  | none =>
    rw [hu] at hw
    refine Ev.done fun k => ?_
    simp only [P.sackbutlaw04_TriadsSizes.j1]
    rw [if_neg (by decide)]
    have hlen := (searchL_counts hk [76, 80, 82] 0 s ⟨by omega, by omega⟩ h2).2
    have hlt : ((searchL n a b [76, 80, 82] 0).length : Int) < 2 * n := by
      have hnot : t ∉ (searchL n a b [76, 80, 82] s).map (·.1) := by
        intro h
        obtain ⟨q, hq, e⟩ := List.mem_map.1 h
        have hno := wordOf_none hu
        rw [Bfs.known_iff.2 ⟨q.2, by rw [← e]; exact hq⟩] at hno
        cases hno
      have := Bfs.nodup_length (t :: (searchL n a b [76, 80, 82] s).map (·.1)) (Base.all n) (List.nodup_cons.2 ⟨hnot, inv.nodup⟩) (fun x hx => by
        rcases List.mem_cons.1 hx with rfl | hx
        · exact mem_all.2 h3
        · obtain ⟨q, hq, rfl⟩ := List.mem_map.1 hx
          exact mem_all.2 (good.range q hq))
      rw [all_length, List.length_cons, List.length_map] at this
      omega
    simp only [sackbutlaw04_Of.f, Option.bind_some, hw, awake_f]
    rw [w64 (x := 2 * n) (by omega) (by omega), if_neg (by decide), if_pos trivial, if_pos hlt]
  | some w =>
    rw [hu] at hw
    have hmem := wordOf_some hu
    obtain ⟨e1, e2⟩ := inv.leads _ hmem
    rw [foldl_walk] at e1
    have hshort : w.length < (searchL n a b [76, 80, 82] s).length := good.short _ hmem
    have hwk : isWalkB ⟨w.toArray⟩ = true := by
      unfold isWalkB
      rw [Bool.and_eq_true]
      constructor
      · refine decide_eq_true ?_
        show w.toArray.size ≤ 60
        rw [List.size_toArray]
        rcases good.length with g | g <;> omega
      · rw [List.all_eq_true]
        intro c hc
        have := e2 c hc
        simp only [List.mem_cons, List.not_mem_nil, or_false] at this
        rcases this with rfl | rfl | rfl <;> rfl
    refine Ev.step (f := fun k => P.sackbutlaw04_TriadsSizes.j2 k s t v ⟨w.toArray⟩ false n a b) (fun k => ?_) (sizes_j2 hk hn ha hb s t hs v ⟨w.toArray⟩ hwk e1.symm ?_)
    · simp only [P.sackbutlaw04_TriadsSizes.j1]
      rw [if_neg (by decide)]
      simp only [sackbutlaw04_Of.f, Option.bind_some, hw, if_true, walk_f n a b s _ hn ha hb, hk, hs, hwk, Bool.and_self]
      rw [← e1]
      simp
    · intro hv he
      refine way_least hk [76, 80, 82] (by decide) s h2.1 h2.2 t w hu v.data.toList ?_ he
      intro c hc
      unfold isWalkB at hv
      rw [Bool.and_eq_true] at hv
      exact step_mem (List.all_eq_true.1 hv.2 c hc)
theorem TriadsSizes (a0 a1 a2 b1 b2 : Int) (b3 : ByteArray) (w0 : (Lit.int .i64 a0).wf = true) (w1 : (Lit.int .i64 a1).wf = true) (w2 : (Lit.int .i64 a2).wf = true) (_wb1 : (Lit.int .i64 b1).wf = true) (_wb2 : (Lit.int .i64 b2).wf = true) (_wb3 : b3.size ≤ maxLen) : ∃ k, P.sackbutlaw04_TriadsSizes.f k a0 a1 a2 b1 b2 b3 = some true := by
  have hn := int64_of w0
  have ha := int64_of w1
  have hb := int64_of w2
  refine Ev.rounds ?_
  unfold P.sackbutlaw04_TriadsSizes.f
  simp only [sackbutlaw04_Of.f, Option.bind_some, size_f a0 a1 a2 hn ha hb]
  cases hk : isKind a0 a1 a2 with
  | false =>
    simp only [Bool.false_eq_true, if_false]
    refine Ev.done fun k => ?_
    rw [if_neg (by decide)]
    simp [P.sackbutlaw04_TriadsSizes.j0, awake_f]
  | true =>
    simp only [if_true]
    refine Ev.bind (fine_two a0 a1 a2 b1 b2 hn ha hb) ?_
    rw [hk, Bool.true_and]
    cases hf : (isTri a0 b1 && isTri a0 b2) with
    | false =>
      refine Ev.done fun k => ?_
      simp [P.sackbutlaw04_TriadsSizes.j0, awake_f]
    | true =>
      obtain ⟨hs, ht⟩ := Bool.and_eq_true_iff.1 hf
      have h16 := (of_decide_eq_true hk).2.1
      have hn0 := kind_pos hk
      have hz0 : isTri a0 0 = true := decide_eq_true ⟨by omega, by omega⟩
      have hro : roundOk ([80, 76, 82] : List UInt8) = true := by decide
      have hR := round_f a0 a1 a2 0 ⟨#[80, 76, 82]⟩ (by decide) hn ha hb
      have e3 : (⟨#[80, 76, 82]⟩ : ByteArray).data.toList = [80, 76, 82] := rfl
      rw [e3, hk, hz0, hro] at hR
      simp only [Bool.and_self, if_true] at hR
      have hz := round_size hk [80, 76, 82] 0 (by omega) (by omega)
      have hsm := size_same hk [80, 76, 82] [76, 80, 82] (fun c => by simp only [List.mem_cons, List.not_mem_nil, or_false]; constructor <;> (rintro (h | h | h) <;> simp [h])) 0 (by omega) (by omega)
      have hdv := size_dvd hk [76, 80, 82]
      have hpos : 0 < (searchL a0 a1 a2 [76, 80, 82] 0).length := by
        have := (searchL_inv hk [76, 80, 82] 0 (by omega) (by omega)).first
        exact List.length_pos_of_mem (List.mem_of_getElem? this)
      refine Ev.step (f := fun k => P.sackbutlaw04_TriadsSizes.j1 k b1 b2 b3 ((searchL a0 a1 a2 [76, 80, 82] 0).length : Int) false a0 a1 a2) (fun k => ?_) (sizes_j1 hk hn ha hb b1 b2 hs ht b3)
      simp only [P.sackbutlaw04_TriadsSizes.j0]
      rw [if_neg (by decide)]
      simp only [sackbutlaw04_Of.f, Option.bind_some, hR, if_true, hz.1, hsm]
      rw [if_neg (by omega), if_neg (by omega), w64 (x := 2 * a0) (by omega) (by omega)]
      have hmod : Int.tmod (2 * a0) ((searchL a0 a1 a2 [76, 80, 82] 0).length : Int) = 0 := by
        rw [Int.tmod_eq_emod_of_nonneg (by omega)]
        have h1 : (2 * a0) = (((2 * a0).toNat : Nat) : Int) := by omega
        rw [h1]
        exact_mod_cast Nat.mod_eq_zero_of_dvd hdv
      rw [hmod]
      rfl
end Go.Proofs.YtpaeobpmkdekfaaDoor.Pure
end
