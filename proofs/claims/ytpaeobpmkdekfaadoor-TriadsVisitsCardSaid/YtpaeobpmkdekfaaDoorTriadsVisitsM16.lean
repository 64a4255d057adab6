/- Texts that the proof of TriadsVisits needs, put together in build order by this session's program (wip/tools/claimtrim.py). -/
import Derived.Test.YtpaeobpmkdekfaaDoorTriadsVisitsM5
import Derived.Test.YtpaeobpmkdekfaaDoorTriadsVisitsM7
import Derived.Test.YtpaeobpmkdekfaaDoorTriadsVisitsM9
import Derived.Test.YtpaeobpmkdekfaaDoorTriadsVisitsM11
import Derived.Test.YtpaeobpmkdekfaaDoorTriadsVisitsM10
import Derived.Test.YtpaeobpmkdekfaaDoorTriadsVisitsM14
import Derived.Test.YtpaeobpmkdekfaaDoorTriadsVisitsM15
section
namespace Go.Proofs.YtpaeobpmkdekfaaDoor.P
open Go.RowKit Go.Proofs.YtpaeobpmkdekfaaDoorW.PrintWords Go.Proofs.YtpaeobpmkdekfaaDoorW.PrintLast Go.Proofs.YtpaeobpmkdekfaaDoorW.PrintMore
attribute [local go_sem] max2_int min2_int max_two min_two max_three min_three max_four min_four   -- for this text's walks alone
set_option linter.unusedVariables false
set_option linter.unusedSimpArgs false
mutual
def sackbutlaw04_TriadsVisits.j0 : Nat → ByteArray → Bool → Int → Bool → Int → Int → Int → Option (Bool)
  | 0, _, _, _, _, _, _, _ => none
  | k + 1, x1, x5, x6, x30, x397000, x397001, x397002 => if x30 = true then (if x6 = 2 then ((sackbutlaw04_awake.f).bind fun t405 => (some t405)) else (if x6 = 3 then ((sackbutlaw04_awake.f).bind fun t406 => (some t406)) else (some false))) else ((sackbutlaw04_Of.f x397000 x397001 x397002).bind fun bt407 => ((triads_Size.f bt407.1 bt407.2.1 bt407.2.2).bind fun bt410 => (if bt410.2 = 0 then (if x5 = true then (if bt410.1 = (wrap64 (2 * x397000)) then (if ((x1.size : Int) % 2) = 1 then (sackbutlaw04_TriadsVisits.j1 k x1 x5 (decide ((x1.size : Int) < x397000)) x397000 x397001 x397002) else (sackbutlaw04_TriadsVisits.j1 k x1 x5 false x397000 x397001 x397002)) else (sackbutlaw04_TriadsVisits.j1 k x1 x5 true x397000 x397001 x397002)) else (sackbutlaw04_TriadsVisits.j1 k x1 x5 false x397000 x397001 x397002)) else (sackbutlaw04_TriadsVisits.j1 k x1 x5 true x397000 x397001 x397002))))
def sackbutlaw04_TriadsVisits.j1 : Nat → ByteArray → Bool → Bool → Int → Int → Int → Option (Bool)
  | 0, _, _, _, _, _, _ => none
  | k + 1, x1, x5, x70, x397000, x397001, x397002 => if x70 = true then (some false) else (if (x1.size : Int) > 30 then ((sackbutlaw04_awake.f).bind fun t412 => (some t412)) else ((sackbutlaw04_Of.f x397000 x397001 x397002).bind fun bt413 => ((strings_Repeat.f x1 2).bind fun t416 => ((triads_Tour.f k bt413.1 bt413.2.1 bt413.2.2 t416).bind fun bt417 => (if bt417.2 = 0 then (if (bt417.1 == x5) = true then ((sackbutlaw04_awake.f).bind fun t419 => (some t419)) else (some false)) else (some false))))))
end
def sackbutlaw04_TriadsVisits.f (k : Nat) (a0_0 : Int) (a0_1 : Int) (a0_2 : Int) (a1 : ByteArray) : Option (Bool) := (sackbutlaw04_Of.f a0_0 a0_1 a0_2).bind fun bt397 => ((sackbutlaw04_text.f a1).bind fun t400 => ((triads_Tour.f k bt397.1 bt397.2.1 bt397.2.2 t400).bind fun bt401 => (if bt401.2 = 0 then ((sackbutref04_Valid.f a0_0 a0_1 a0_2).bind fun t403 => (if t403 = true then ((sackbutref04_IsWalk.f k a1).bind fun t404 => (sackbutlaw04_TriadsVisits.j0 k a1 bt401.1 bt401.2 (!t404) a0_0 a0_1 a0_2)) else (sackbutlaw04_TriadsVisits.j0 k a1 bt401.1 bt401.2 true a0_0 a0_1 a0_2))) else (sackbutlaw04_TriadsVisits.j0 k a1 bt401.1 bt401.2 true a0_0 a0_1 a0_2))))
set_option maxHeartbeats 8000000 in
set_option maxRecDepth 100000 in
theorem sackbutlaw04_TriadsVisits.calls (k : Nat) (a0_0 : Int) (a0_1 : Int) (a0_2 : Int) (a1 : ByteArray) (r : Bool) (w : World) (h : sackbutlaw04_TriadsVisits.f k a0_0 a0_1 a0_2 a1 = some r) :
    Calls Tryd.prog 11 #[.agg #[.int .i64 a0_0, .int .i64 a0_1, .int .i64 a0_2], .string a1] w fun e w' => e = .returned (.bool r) ∧ Below w.heap.size w w' := by
  have hu23 := Tryd.underlying23
  have HB := Aside0.mk (Below.refl w.heap.size w)
  have H : ((sackbutlaw04_Of.f a0_0 a0_1 a0_2).bind fun bt397 => ((sackbutlaw04_text.f a1).bind fun t400 => ((triads_Tour.f k bt397.1 bt397.2.1 bt397.2.2 t400).bind fun bt401 => (if bt401.2 = 0 then ((sackbutref04_Valid.f a0_0 a0_1 a0_2).bind fun t403 => (if t403 = true then ((sackbutref04_IsWalk.f k a1).bind fun t404 => (sackbutlaw04_TriadsVisits.j0 k a1 bt401.1 bt401.2 (!t404) a0_0 a0_1 a0_2)) else (sackbutlaw04_TriadsVisits.j0 k a1 bt401.1 bt401.2 true a0_0 a0_1 a0_2))) else (sackbutlaw04_TriadsVisits.j0 k a1 bt401.1 bt401.2 true a0_0 a0_1 a0_2))))) = some r := h
  clear h
  replace H := Option.bind_eq_some_iff.mp H
  obtain ⟨⟨t397, t398, t399⟩, A30, H⟩ := H
  replace H : ((sackbutlaw04_text.f a1).bind fun t400 => ((triads_Tour.f k t397 t398 t399 t400).bind fun bt401 => (if bt401.2 = 0 then ((sackbutref04_Valid.f a0_0 a0_1 a0_2).bind fun t403 => (if t403 = true then ((sackbutref04_IsWalk.f k a1).bind fun t404 => (sackbutlaw04_TriadsVisits.j0 k a1 bt401.1 bt401.2 (!t404) a0_0 a0_1 a0_2)) else (sackbutlaw04_TriadsVisits.j0 k a1 bt401.1 bt401.2 true a0_0 a0_1 a0_2))) else (sackbutlaw04_TriadsVisits.j0 k a1 bt401.1 bt401.2 true a0_0 a0_1 a0_2)))) = some r := H
  have A3 := Aside0.mk A30
  clear A30
  replace H := Option.bind_eq_some_iff.mp H
  obtain ⟨t400, A40, H⟩ := H
  replace H : ((triads_Tour.f k t397 t398 t399 t400).bind fun bt401 => (if bt401.2 = 0 then ((sackbutref04_Valid.f a0_0 a0_1 a0_2).bind fun t403 => (if t403 = true then ((sackbutref04_IsWalk.f k a1).bind fun t404 => (sackbutlaw04_TriadsVisits.j0 k a1 bt401.1 bt401.2 (!t404) a0_0 a0_1 a0_2)) else (sackbutlaw04_TriadsVisits.j0 k a1 bt401.1 bt401.2 true a0_0 a0_1 a0_2))) else (sackbutlaw04_TriadsVisits.j0 k a1 bt401.1 bt401.2 true a0_0 a0_1 a0_2))) = some r := H
  have A4 := Aside0.mk A40
  clear A40
  replace H := Option.bind_eq_some_iff.mp H
  obtain ⟨⟨t401, t402⟩, A50, H⟩ := H
  replace H : (if t402 = 0 then ((sackbutref04_Valid.f a0_0 a0_1 a0_2).bind fun t403 => (if t403 = true then ((sackbutref04_IsWalk.f k a1).bind fun t404 => (sackbutlaw04_TriadsVisits.j0 k a1 t401 t402 (!t404) a0_0 a0_1 a0_2)) else (sackbutlaw04_TriadsVisits.j0 k a1 t401 t402 true a0_0 a0_1 a0_2))) else (sackbutlaw04_TriadsVisits.j0 k a1 t401 t402 true a0_0 a0_1 a0_2)) = some r := H
  have A5 := Aside0.mk A50
  clear A50
  have HC6 := Aside0.mk H
  clear H
  go_enter Tryd.func11, Tryd.ntmps11
  go_upto_region 2 with (first | ((with_reducible refine gate_dst (N := 2) rfl ?_); (try (refine gate_guard (by rfl) ?_; dsimp only)); refine box_event ?hg (N := 2) ?hd (cs := #[.int .i64 a0_0, .int .i64 a0_1, .int .i64 a0_2]) (t := 23) ?hr ?_; (case hd => rfl); (case hg => rfl); (case hr => first | (go_simp; done) | (go_simp; rfl)); intro gb396 hg w7 hbox hb; have n0_ := Aside0.mk (below_step (by repeat (first | (with_reducible first | exact HB.out | apply below_alloc | apply pw_below_drewN | apply below_drew1) | exact HB.out)) hb); have n1_ := Aside0.mk (hbox); have n2_ := Aside0.mk ((by rw [hg]; exact (below_size (by repeat (first | (with_reducible first | exact HB.out | apply below_alloc | apply pw_below_drewN | apply below_drew1) | exact HB.out))) : w.heap.size ≤ gb396)); have n3_ := Aside0.mk ((by rw [hg]; exact (below_size (by repeat (first | (with_reducible first | exact HB.out | apply below_alloc | apply pw_below_drewN | apply below_drew1) | exact HB.out))) : w.heap.size ≤ gb396)); clear HB; have HB := n0_; have BK396 := n1_; have GW396 := n2_; have GE396 := n3_; clear n0_ n1_ n2_ n3_; clear hb hbox hg; have hcz8_0 : w7.cell? ⟨gb396, 0, none⟩ = some (.int .i64 a0_0) := (blk_cell BK396.out 0).trans rfl; have hcz8_1 : w7.cell? ⟨gb396, 1, none⟩ = some (.int .i64 a0_1) := (blk_cell BK396.out 1).trans rfl; have hcz8_2 : w7.cell? ⟨gb396, 2, none⟩ = some (.int .i64 a0_2) := (blk_cell BK396.out 2).trans rfl; have hfz8_0 := blk_frozen BK396.out 0; have hfz8_1 := blk_frozen BK396.out 1; have hfz8_2 := blk_frozen BK396.out 2) | ((with_reducible refine gate_callee (f := 17) rfl ?_); refine goesL_ (some 13) rfl rfl Tryd.func17 (by kernel_rfl) rfl #[.agg #[.int .i64 a0_0, .int .i64 a0_1, .int .i64 a0_2]] rfl (by (try simp only [List.map_toArray, List.map_cons, List.map_nil]); first | done | rfl | (simp only [List.length_drop, List.length_take]; rfl)) ?_; (with_reducible refine (sackbutlaw04_Of.calls a0_0 a0_1 a0_2 t397 t398 t399 _ A3.out).mono ?_); rintro e w9 ⟨rfl, hb⟩; refine ⟨_, rfl, ?_⟩; have n0_ := Aside0.mk (blk_below (g := gb396) (o := .cells #[.int .i64 a0_0, .int .i64 a0_1, .int .i64 a0_2] 23 (0, 0)) (by (with_reducible repeat (first | refine blk_drewN ?_ _ | refine blk_drew ?_ | refine blk_alloc ?_ _)); exact BK396.out) hb); have n1_ := Aside0.mk (below_step (by repeat (first | (with_reducible first | exact HB.out | apply below_alloc | apply pw_below_drewN | apply below_drew1 | refine below_set ?_ GE396.out) | exact HB.out)) hb); clear BK396; clear HB; have BK396 := n0_; have HB := n1_; clear n0_ n1_; (try clear hb); (try clear hb2); (try clear hk); (try clear hi)) | ((with_reducible refine gate_callee (f := 18) rfl ?_); refine goesL_ (some 15) rfl rfl Tryd.func18 (by kernel_rfl) rfl #[.string a1] rfl (by (try simp only [List.map_toArray, List.map_cons, List.map_nil]); first | done | rfl | (simp only [List.length_drop, List.length_take]; rfl)) ?_; (with_reducible refine (sackbutlaw04_text.calls a1 t400 _ A4.out).mono ?_); rintro e w10 ⟨rfl, hb⟩; refine ⟨_, rfl, ?_⟩; have n0_ := Aside0.mk (blk_below (g := gb396) (o := .cells #[.int .i64 a0_0, .int .i64 a0_1, .int .i64 a0_2] 23 (0, 0)) (by (with_reducible repeat (first | refine blk_drewN ?_ _ | refine blk_drew ?_ | refine blk_alloc ?_ _)); exact BK396.out) hb); have n1_ := Aside0.mk (below_step (by repeat (first | (with_reducible first | exact HB.out | apply below_alloc | apply pw_below_drewN | apply below_drew1 | refine below_set ?_ GE396.out) | exact HB.out)) hb); clear BK396; clear HB; have BK396 := n0_; have HB := n1_; clear n0_ n1_; (try clear hb); (try clear hb2); (try clear hk); (try clear hi)) | ((with_reducible refine gate_callee (f := 30) rfl ?_); refine goesL_ (some 16) rfl rfl Tryd.func30 (by kernel_rfl) rfl #[.agg #[.int .i64 t397, .int .i64 t398, .int .i64 t399], .string t400] rfl (by (try simp only [List.map_toArray, List.map_cons, List.map_nil]); first | done | rfl | (simp only [List.length_drop, List.length_take]; rfl)) ?_; (with_reducible refine (triads_Tour.calls k t397 t398 t399 t400 t401 t402 _ A5.out).mono ?_); rintro e w11 ⟨rfl, hb⟩; refine ⟨_, rfl, ?_⟩; have n0_ := Aside0.mk (blk_below (g := gb396) (o := .cells #[.int .i64 a0_0, .int .i64 a0_1, .int .i64 a0_2] 23 (0, 0)) (by (with_reducible repeat (first | refine blk_drewN ?_ _ | refine blk_drew ?_ | refine blk_alloc ?_ _)); exact BK396.out) hb); have n1_ := Aside0.mk (below_step (by repeat (first | (with_reducible first | exact HB.out | apply below_alloc | apply pw_below_drewN | apply below_drew1 | refine below_set ?_ GE396.out) | exact HB.out)) hb); clear BK396; clear HB; have BK396 := n0_; have HB := n1_; clear n0_ n1_; (try clear hb); (try clear hb2); (try clear hk); (try clear hi)))
  (try simp only [Act.put, List.setIfInBounds_toArray, List.set_cons_zero, List.set_cons_succ])
  go_cut [30] (fun v30 wc => ∃ (kq : Nat) (x30_5 : Bool), v30 = .bool x30_5 ∧ Aside0 (sackbutlaw04_TriadsVisits.j0 kq a1 t401 t402 x30_5 a0_0 a0_1 a0_2 = some r) ∧ Aside0 (kq ≤ k) ∧ Aside0 (wc.heap[gb396]? = some (.cells #[.int .i64 a0_0, .int .i64 a0_1, .int .i64 a0_2] 23 (0, 0))) ∧ Aside0 (Below w.heap.size w wc))
  case first =>
    have H := HC6.out
    clear HC6
    by_cases c12 : t402 = 0
    · rw [if_pos c12] at H
      have c12b0 : (t402 == 0) = true := beq_iff_eq.mpr c12
      have c12b1 : (t402 != 0) = false := bne_eq_false_iff_eq.mpr c12
      clear c12
      (first | rw [c12b0] | (simp only [i64_w, i32_w]; rw [c12b0]) | skip)
      replace H := Option.bind_eq_some_iff.mp H
      obtain ⟨t403, A130, H⟩ := H
      replace H : (if t403 = true then ((sackbutref04_IsWalk.f k a1).bind fun t404 => (sackbutlaw04_TriadsVisits.j0 k a1 t401 t402 (!t404) a0_0 a0_1 a0_2)) else (sackbutlaw04_TriadsVisits.j0 k a1 t401 t402 true a0_0 a0_1 a0_2)) = some r := H
      have A13 := Aside0.mk A130
      clear A130
      by_cases c14 : t403 = true
      · subst c14
        have H1 : ((sackbutref04_IsWalk.f k a1).bind fun t404 => (sackbutlaw04_TriadsVisits.j0 k a1 t401 t402 (!t404) a0_0 a0_1 a0_2)) = some r := by rw [if_pos rfl] at H; exact H
        clear H
        have H := H1
        clear H1
        replace H := Option.bind_eq_some_iff.mp H
        obtain ⟨t404, A150, H⟩ := H
        replace H : (sackbutlaw04_TriadsVisits.j0 k a1 t401 t402 (!t404) a0_0 a0_1 a0_2) = some r := H
        have A15 := Aside0.mk A150
        clear A150
        have H' := Aside0.mk H
        clear H
        have hcz16_0 : w11.cell? ⟨gb396, 0, none⟩ = some (.int .i64 a0_0) := (blk_cell BK396.out 0).trans rfl
        have hcz16_1 : w11.cell? ⟨gb396, 1, none⟩ = some (.int .i64 a0_1) := (blk_cell BK396.out 1).trans rfl
        have hcz16_2 : w11.cell? ⟨gb396, 2, none⟩ = some (.int .i64 a0_2) := (blk_cell BK396.out 2).trans rfl
        have hfz16_0 := blk_frozen BK396.out 0
        have hfz16_1 := blk_frozen BK396.out 1
        have hfz16_2 := blk_frozen BK396.out 2
        go_wp2_with (first | (go_at_call 28; (with_reducible refine (sackbutref04_Valid.calls a0_0 a0_1 a0_2 true _ A13.out).mono ?_); rintro e w17 ⟨rfl, hb⟩; have n0_ := Aside0.mk (blk_below (g := gb396) (o := .cells #[.int .i64 a0_0, .int .i64 a0_1, .int .i64 a0_2] 23 (0, 0)) (by (with_reducible repeat (first | refine blk_drewN ?_ _ | refine blk_drew ?_ | refine blk_alloc ?_ _)); exact BK396.out) hb); have n1_ := Aside0.mk (below_step (by repeat (first | (with_reducible first | exact HB.out | apply below_alloc | apply pw_below_drewN | apply below_drew1 | refine below_set ?_ GE396.out) | exact HB.out)) hb); clear BK396; clear HB; have BK396 := n0_; have HB := n1_; clear n0_ n1_; (try clear hb); (try clear hb2); (try clear hk); (try clear hi)) | (go_at_call 21; (with_reducible refine (sackbutref04_IsWalk.calls k a1 t404 _ A15.out).mono ?_); rintro e w' ⟨rfl, ⟨nd, rfl⟩⟩))
        go_meet
        case rel => exact ⟨_, (!t404), (by first | rfl | (simp; done) | (simp [*]; done)), H', ⟨by first | omega | exact Nat.le_refl _⟩, ⟨by (with_reducible repeat (first | refine blk_drewN ?_ _ | refine blk_drew ?_ | refine blk_alloc ?_ _)); exact BK396.out⟩, ⟨by repeat (first | (with_reducible first | exact HB.out | apply below_alloc | apply pw_below_drewN | apply below_drew1 | refine below_set ?_ GE396.out) | exact HB.out)⟩⟩
      · replace c14 := Bool.eq_false_iff.mpr c14
        subst c14
        have H1 : (sackbutlaw04_TriadsVisits.j0 k a1 t401 t402 true a0_0 a0_1 a0_2) = some r := by rw [if_neg (show ¬ (false = true) by decide)] at H; exact H
        clear H
        have H := H1
        clear H1
        have H' := Aside0.mk H
        clear H
        have hcz18_0 : w11.cell? ⟨gb396, 0, none⟩ = some (.int .i64 a0_0) := (blk_cell BK396.out 0).trans rfl
        have hcz18_1 : w11.cell? ⟨gb396, 1, none⟩ = some (.int .i64 a0_1) := (blk_cell BK396.out 1).trans rfl
        have hcz18_2 : w11.cell? ⟨gb396, 2, none⟩ = some (.int .i64 a0_2) := (blk_cell BK396.out 2).trans rfl
        have hfz18_0 := blk_frozen BK396.out 0
        have hfz18_1 := blk_frozen BK396.out 1
        have hfz18_2 := blk_frozen BK396.out 2
        go_wp2_with (first | (go_at_call 28; (with_reducible refine (sackbutref04_Valid.calls a0_0 a0_1 a0_2 false _ A13.out).mono ?_); rintro e w19 ⟨rfl, hb⟩; have n0_ := Aside0.mk (blk_below (g := gb396) (o := .cells #[.int .i64 a0_0, .int .i64 a0_1, .int .i64 a0_2] 23 (0, 0)) (by (with_reducible repeat (first | refine blk_drewN ?_ _ | refine blk_drew ?_ | refine blk_alloc ?_ _)); exact BK396.out) hb); have n1_ := Aside0.mk (below_step (by repeat (first | (with_reducible first | exact HB.out | apply below_alloc | apply pw_below_drewN | apply below_drew1 | refine below_set ?_ GE396.out) | exact HB.out)) hb); clear BK396; clear HB; have BK396 := n0_; have HB := n1_; clear n0_ n1_; (try clear hb); (try clear hb2); (try clear hk); (try clear hi)))
        go_meet
        case rel => exact ⟨_, (true), (by first | rfl | (simp; done) | (simp [*]; done)), H', ⟨by first | omega | exact Nat.le_refl _⟩, ⟨by (with_reducible repeat (first | refine blk_drewN ?_ _ | refine blk_drew ?_ | refine blk_alloc ?_ _)); exact BK396.out⟩, ⟨by repeat (first | (with_reducible first | exact HB.out | apply below_alloc | apply pw_below_drewN | apply below_drew1 | refine below_set ?_ GE396.out) | exact HB.out)⟩⟩
    · rw [if_neg c12] at H
      have c12b0 : (t402 == 0) = false := beq_eq_false_iff_ne.mpr c12
      have c12b1 : (t402 != 0) = true := bne_iff_ne.mpr c12
      (first | rw [c12b0] | (simp only [i64_w, i32_w]; rw [c12b0]) | skip)
      have H' := Aside0.mk H
      clear H
      go_wp2
      go_meet
      case rel => exact ⟨_, (true), (by first | rfl | (simp; done) | (simp [*]; done)), H', ⟨by first | omega | exact Nat.le_refl _⟩, ⟨by (with_reducible repeat (first | refine blk_drewN ?_ _ | refine blk_drew ?_ | refine blk_alloc ?_ _)); exact BK396.out⟩, ⟨by repeat (first | (with_reducible first | exact HB.out | apply below_alloc | apply pw_below_drewN | apply below_drew1 | refine below_set ?_ GE396.out) | exact HB.out)⟩⟩
  case rest =>
    clear HC6
    try clear c1
    try clear p2
    try clear c3
    try clear c11
    try clear c12
    try clear c12b0
    try clear c12b1
    try clear c14
    try clear c17
    try clear c18
    try clear hcz16_0
    try clear hcz16_1
    try clear hcz16_2
    try clear hcz18_0
    try clear hcz18_1
    try clear hcz18_2
    try clear hcz8_0
    try clear hcz8_1
    try clear hcz8_2
    try clear hfz16_0
    try clear hfz16_1
    try clear hfz16_2
    try clear hfz18_0
    try clear hfz18_1
    try clear hfz18_2
    try clear hfz8_0
    try clear hfz8_1
    try clear hfz8_2
    obtain ⟨kq, x30_5, rfl, HA, HJ5, BK396, HB⟩ := hcut
    cases kq with
    | zero => exact absurd HA.out (by simp [sackbutlaw04_TriadsVisits.j0])
    | succ kj5 =>
      have H := HA.out
      clear HA
      simp only [sackbutlaw04_TriadsVisits.j0] at H
      by_cases c20 : x30_5 = true
      · subst c20
        have H1 : (if t402 = 2 then ((sackbutlaw04_awake.f).bind fun t405 => (some t405)) else (if t402 = 3 then ((sackbutlaw04_awake.f).bind fun t406 => (some t406)) else (some false))) = some r := by rw [if_pos rfl] at H; exact H
        clear H
        have H := H1
        clear H1
        by_cases c21 : t402 = 2
        · rw [if_pos c21] at H
          have c21b0 : (t402 == 2) = true := beq_iff_eq.mpr c21
          have c21b1 : (t402 != 2) = false := bne_eq_false_iff_eq.mpr c21
          clear c21
          replace H := Option.bind_eq_some_iff.mp H
          obtain ⟨t405, A220, H⟩ := H
          replace H : (some t405) = some r := H
          have A22 := Aside0.mk A220
          clear A220
          obtain rfl := Option.some.inj H
          go_wp2_with (first | (go_at_call 20; (with_reducible refine (sackbutlaw04_awake.calls  t405 _ A22.out).mono ?_); rintro e w23 ⟨rfl, hb⟩; have n0_ := Aside0.mk (blk_below (g := gb396) (o := .cells #[.int .i64 a0_0, .int .i64 a0_1, .int .i64 a0_2] 23 (0, 0)) (by (with_reducible repeat (first | refine blk_drewN ?_ _ | refine blk_drew ?_ | refine blk_alloc ?_ _)); exact BK396.out) hb); have n1_ := Aside0.mk (below_step (by repeat (first | (with_reducible first | exact HB.out | apply below_alloc | apply pw_below_drewN | apply below_drew1 | refine below_set ?_ GE396.out) | exact HB.out)) hb); clear BK396; clear HB; have BK396 := n0_; have HB := n1_; clear n0_ n1_; (try clear hb); (try clear hb2); (try clear hk); (try clear hi)))
          go_ret
          exact ⟨by first | rfl | (simp [errW_none, errW_some] <;> rfl) | (simp [*, errW_none, errW_some] <;> rfl), by repeat (first | (with_reducible first | exact HB.out | apply below_alloc | apply pw_below_drewN | apply below_drew1 | refine below_set ?_ GE396.out) | exact HB.out)⟩
        · rw [if_neg c21] at H
          have c21b0 : (t402 == 2) = false := beq_eq_false_iff_ne.mpr c21
          have c21b1 : (t402 != 2) = true := bne_iff_ne.mpr c21
          by_cases c24 : t402 = 3
          · rw [if_pos c24] at H
            have c24b0 : (t402 == 3) = true := beq_iff_eq.mpr c24
            have c24b1 : (t402 != 3) = false := bne_eq_false_iff_eq.mpr c24
            clear c24
            replace H := Option.bind_eq_some_iff.mp H
            obtain ⟨t406, A250, H⟩ := H
            replace H : (some t406) = some r := H
            have A25 := Aside0.mk A250
            clear A250
            obtain rfl := Option.some.inj H
            go_wp2_with (first | (go_at_call 20; (with_reducible refine (sackbutlaw04_awake.calls  t406 _ A25.out).mono ?_); rintro e w26 ⟨rfl, hb⟩; have n0_ := Aside0.mk (blk_below (g := gb396) (o := .cells #[.int .i64 a0_0, .int .i64 a0_1, .int .i64 a0_2] 23 (0, 0)) (by (with_reducible repeat (first | refine blk_drewN ?_ _ | refine blk_drew ?_ | refine blk_alloc ?_ _)); exact BK396.out) hb); have n1_ := Aside0.mk (below_step (by repeat (first | (with_reducible first | exact HB.out | apply below_alloc | apply pw_below_drewN | apply below_drew1 | refine below_set ?_ GE396.out) | exact HB.out)) hb); clear BK396; clear HB; have BK396 := n0_; have HB := n1_; clear n0_ n1_; (try clear hb); (try clear hb2); (try clear hk); (try clear hi)))
            go_ret
            exact ⟨by first | rfl | (simp [errW_none, errW_some] <;> rfl) | (simp [*, errW_none, errW_some] <;> rfl), by repeat (first | (with_reducible first | exact HB.out | apply below_alloc | apply pw_below_drewN | apply below_drew1 | refine below_set ?_ GE396.out) | exact HB.out)⟩
          · rw [if_neg c24] at H
            have c24b0 : (t402 == 3) = false := beq_eq_false_iff_ne.mpr c24
            have c24b1 : (t402 != 3) = true := bne_iff_ne.mpr c24
            obtain rfl := Option.some.inj H
            go_wp2
            go_ret
            exact ⟨by first | rfl | (simp [errW_none, errW_some] <;> rfl) | (simp [*, errW_none, errW_some] <;> rfl), by repeat (first | (with_reducible first | exact HB.out | apply below_alloc | apply pw_below_drewN | apply below_drew1 | refine below_set ?_ GE396.out) | exact HB.out)⟩
      · replace c20 := Bool.eq_false_iff.mpr c20
        subst c20
        have H1 : ((sackbutlaw04_Of.f a0_0 a0_1 a0_2).bind fun bt407 => ((triads_Size.f bt407.1 bt407.2.1 bt407.2.2).bind fun bt410 => (if bt410.2 = 0 then (if t401 = true then (if bt410.1 = (wrap64 (2 * a0_0)) then (if ((a1.size : Int) % 2) = 1 then (sackbutlaw04_TriadsVisits.j1 kj5 a1 t401 (decide ((a1.size : Int) < a0_0)) a0_0 a0_1 a0_2) else (sackbutlaw04_TriadsVisits.j1 kj5 a1 t401 false a0_0 a0_1 a0_2)) else (sackbutlaw04_TriadsVisits.j1 kj5 a1 t401 true a0_0 a0_1 a0_2)) else (sackbutlaw04_TriadsVisits.j1 kj5 a1 t401 false a0_0 a0_1 a0_2)) else (sackbutlaw04_TriadsVisits.j1 kj5 a1 t401 true a0_0 a0_1 a0_2)))) = some r := by rw [if_neg (show ¬ (false = true) by decide)] at H; exact H
        clear H
        have H := H1
        clear H1
        replace H := Option.bind_eq_some_iff.mp H
        obtain ⟨⟨t407, t408, t409⟩, A270, H⟩ := H
        replace H : ((triads_Size.f t407 t408 t409).bind fun bt410 => (if bt410.2 = 0 then (if t401 = true then (if bt410.1 = (wrap64 (2 * a0_0)) then (if ((a1.size : Int) % 2) = 1 then (sackbutlaw04_TriadsVisits.j1 kj5 a1 t401 (decide ((a1.size : Int) < a0_0)) a0_0 a0_1 a0_2) else (sackbutlaw04_TriadsVisits.j1 kj5 a1 t401 false a0_0 a0_1 a0_2)) else (sackbutlaw04_TriadsVisits.j1 kj5 a1 t401 true a0_0 a0_1 a0_2)) else (sackbutlaw04_TriadsVisits.j1 kj5 a1 t401 false a0_0 a0_1 a0_2)) else (sackbutlaw04_TriadsVisits.j1 kj5 a1 t401 true a0_0 a0_1 a0_2))) = some r := H
        have A27 := Aside0.mk A270
        clear A270
        replace H := Option.bind_eq_some_iff.mp H
        obtain ⟨⟨t410, t411⟩, A280, H⟩ := H
        replace H : (if t411 = 0 then (if t401 = true then (if t410 = (wrap64 (2 * a0_0)) then (if ((a1.size : Int) % 2) = 1 then (sackbutlaw04_TriadsVisits.j1 kj5 a1 t401 (decide ((a1.size : Int) < a0_0)) a0_0 a0_1 a0_2) else (sackbutlaw04_TriadsVisits.j1 kj5 a1 t401 false a0_0 a0_1 a0_2)) else (sackbutlaw04_TriadsVisits.j1 kj5 a1 t401 true a0_0 a0_1 a0_2)) else (sackbutlaw04_TriadsVisits.j1 kj5 a1 t401 false a0_0 a0_1 a0_2)) else (sackbutlaw04_TriadsVisits.j1 kj5 a1 t401 true a0_0 a0_1 a0_2)) = some r := H
        have A28 := Aside0.mk A280
        clear A280
        have HC29 := Aside0.mk H
        clear H
        have hcz30_0 : wc.cell? ⟨gb396, 0, none⟩ = some (.int .i64 a0_0) := (blk_cell BK396.out 0).trans rfl
        have hcz30_1 : wc.cell? ⟨gb396, 1, none⟩ = some (.int .i64 a0_1) := (blk_cell BK396.out 1).trans rfl
        have hcz30_2 : wc.cell? ⟨gb396, 2, none⟩ = some (.int .i64 a0_2) := (blk_cell BK396.out 2).trans rfl
        have hfz30_0 := blk_frozen BK396.out 0
        have hfz30_1 := blk_frozen BK396.out 1
        have hfz30_2 := blk_frozen BK396.out 2
        go_upto_region 5 with (first | ((with_reducible refine gate_callee (f := 17) rfl ?_); refine goesL_ (some 42) rfl rfl Tryd.func17 (by kernel_rfl) rfl #[.agg #[.int .i64 a0_0, .int .i64 a0_1, .int .i64 a0_2]] rfl (by (try simp only [List.map_toArray, List.map_cons, List.map_nil]); first | done | rfl | (simp only [List.length_drop, List.length_take]; rfl)) ?_; (with_reducible refine (sackbutlaw04_Of.calls a0_0 a0_1 a0_2 t407 t408 t409 _ A27.out).mono ?_); rintro e w31 ⟨rfl, hb⟩; refine ⟨_, rfl, ?_⟩; have n0_ := Aside0.mk (blk_below (g := gb396) (o := .cells #[.int .i64 a0_0, .int .i64 a0_1, .int .i64 a0_2] 23 (0, 0)) (by (with_reducible repeat (first | refine blk_drewN ?_ _ | refine blk_drew ?_ | refine blk_alloc ?_ _)); exact BK396.out) hb); have n1_ := Aside0.mk (below_step (by repeat (first | (with_reducible first | exact HB.out | apply below_alloc | apply pw_below_drewN | apply below_drew1 | refine below_set ?_ GE396.out) | exact HB.out)) hb); clear BK396; clear HB; have BK396 := n0_; have HB := n1_; clear n0_ n1_; (try clear hb); (try clear hb2); (try clear hk); (try clear hi)) | ((with_reducible refine gate_callee (f := 35) rfl ?_); refine goesL_ (some 43) rfl rfl Tryd.func35 (by kernel_rfl) rfl #[.agg #[.int .i64 t407, .int .i64 t408, .int .i64 t409]] rfl (by (try simp only [List.map_toArray, List.map_cons, List.map_nil]); first | done | rfl | (simp only [List.length_drop, List.length_take]; rfl)) ?_; (with_reducible refine (triads_Size.calls t407 t408 t409 t410 t411 _ A28.out).mono ?_); rintro e w32 ⟨rfl, hb⟩; refine ⟨_, rfl, ?_⟩; have n0_ := Aside0.mk (blk_below (g := gb396) (o := .cells #[.int .i64 a0_0, .int .i64 a0_1, .int .i64 a0_2] 23 (0, 0)) (by (with_reducible repeat (first | refine blk_drewN ?_ _ | refine blk_drew ?_ | refine blk_alloc ?_ _)); exact BK396.out) hb); have n1_ := Aside0.mk (below_step (by repeat (first | (with_reducible first | exact HB.out | apply below_alloc | apply pw_below_drewN | apply below_drew1 | refine below_set ?_ GE396.out) | exact HB.out)) hb); clear BK396; clear HB; have BK396 := n0_; have HB := n1_; clear n0_ n1_; (try clear hb); (try clear hb2); (try clear hk); (try clear hi)))
        (try simp only [Act.put, List.setIfInBounds_toArray, List.set_cons_zero, List.set_cons_succ])
        go_cut [70] (fun v70 wc => ∃ (kq : Nat) (x70_28 : Bool), v70 = .bool x70_28 ∧ Aside0 (sackbutlaw04_TriadsVisits.j1 kq a1 t401 x70_28 a0_0 a0_1 a0_2 = some r) ∧ Aside0 (kq ≤ kj5) ∧ Aside0 (wc.heap[gb396]? = some (.cells #[.int .i64 a0_0, .int .i64 a0_1, .int .i64 a0_2] 23 (0, 0))) ∧ Aside0 (Below w.heap.size w wc))
        case first =>
          have H := HC29.out
          clear HC29
          by_cases c33 : t411 = 0
          · rw [if_pos c33] at H
            have c33b0 : (t411 == 0) = true := beq_iff_eq.mpr c33
            have c33b1 : (t411 != 0) = false := bne_eq_false_iff_eq.mpr c33
            clear c33
            (first | rw [c33b0] | (simp only [i64_w, i32_w]; rw [c33b0]) | skip)
            by_cases c34 : t401 = true
            · subst c34
              have H1 : (if t410 = (wrap64 (2 * a0_0)) then (if ((a1.size : Int) % 2) = 1 then (sackbutlaw04_TriadsVisits.j1 kj5 a1 true (decide ((a1.size : Int) < a0_0)) a0_0 a0_1 a0_2) else (sackbutlaw04_TriadsVisits.j1 kj5 a1 true false a0_0 a0_1 a0_2)) else (sackbutlaw04_TriadsVisits.j1 kj5 a1 true true a0_0 a0_1 a0_2)) = some r := by rw [if_pos rfl] at H; exact H
              clear H
              have H := H1
              clear H1
              by_cases c35 : t410 = (wrap64 (2 * a0_0))
              · rw [if_pos c35] at H
                have c35b0 : (t410 == (wrap64 (2 * a0_0))) = true := beq_iff_eq.mpr c35
                have c35b1 : (t410 != (wrap64 (2 * a0_0))) = false := bne_eq_false_iff_eq.mpr c35
                clear c35
                by_cases c36 : ((a1.size : Int) % 2) = 1
                · rw [if_pos c36] at H
                  have c36b0 : (((a1.size : Int) % 2) == 1) = true := beq_iff_eq.mpr c36
                  have c36b1 : (((a1.size : Int) % 2) != 1) = false := bne_eq_false_iff_eq.mpr c36
                  clear c36
                  have H' := Aside0.mk H
                  clear H
                  have hcz37_0 : w32.cell? ⟨gb396, 0, none⟩ = some (.int .i64 a0_0) := (blk_cell BK396.out 0).trans rfl
                  have hcz37_1 : w32.cell? ⟨gb396, 1, none⟩ = some (.int .i64 a0_1) := (blk_cell BK396.out 1).trans rfl
                  have hcz37_2 : w32.cell? ⟨gb396, 2, none⟩ = some (.int .i64 a0_2) := (blk_cell BK396.out 2).trans rfl
                  have hfz37_0 := blk_frozen BK396.out 0
                  have hfz37_1 := blk_frozen BK396.out 1
                  have hfz37_2 := blk_frozen BK396.out 2
                  go_wp2
                  go_meet
                  case rel => exact ⟨_, (decide ((a1.size : Int) < a0_0)), (by first | rfl | (simp; done) | (simp [*]; done)), H', ⟨by have := HJ5.out; first | omega | exact Nat.le_refl _⟩, ⟨by (with_reducible repeat (first | refine blk_drewN ?_ _ | refine blk_drew ?_ | refine blk_alloc ?_ _)); exact BK396.out⟩, ⟨by repeat (first | (with_reducible first | exact HB.out | apply below_alloc | apply pw_below_drewN | apply below_drew1 | refine below_set ?_ GE396.out) | exact HB.out)⟩⟩
                · rw [if_neg c36] at H
                  have c36b0 : (((a1.size : Int) % 2) == 1) = false := beq_eq_false_iff_ne.mpr c36
                  have c36b1 : (((a1.size : Int) % 2) != 1) = true := bne_iff_ne.mpr c36
                  have H' := Aside0.mk H
                  clear H
                  have hcz38_0 : w32.cell? ⟨gb396, 0, none⟩ = some (.int .i64 a0_0) := (blk_cell BK396.out 0).trans rfl
                  have hcz38_1 : w32.cell? ⟨gb396, 1, none⟩ = some (.int .i64 a0_1) := (blk_cell BK396.out 1).trans rfl
                  have hcz38_2 : w32.cell? ⟨gb396, 2, none⟩ = some (.int .i64 a0_2) := (blk_cell BK396.out 2).trans rfl
                  have hfz38_0 := blk_frozen BK396.out 0
                  have hfz38_1 := blk_frozen BK396.out 1
                  have hfz38_2 := blk_frozen BK396.out 2
                  go_wp2
                  go_meet
                  case rel => exact ⟨_, (false), (by first | rfl | (simp; done) | (simp [*]; done)), H', ⟨by have := HJ5.out; first | omega | exact Nat.le_refl _⟩, ⟨by (with_reducible repeat (first | refine blk_drewN ?_ _ | refine blk_drew ?_ | refine blk_alloc ?_ _)); exact BK396.out⟩, ⟨by repeat (first | (with_reducible first | exact HB.out | apply below_alloc | apply pw_below_drewN | apply below_drew1 | refine below_set ?_ GE396.out) | exact HB.out)⟩⟩
              · rw [if_neg c35] at H
                have c35b0 : (t410 == (wrap64 (2 * a0_0))) = false := beq_eq_false_iff_ne.mpr c35
                have c35b1 : (t410 != (wrap64 (2 * a0_0))) = true := bne_iff_ne.mpr c35
                have H' := Aside0.mk H
                clear H
                have hcz39_0 : w32.cell? ⟨gb396, 0, none⟩ = some (.int .i64 a0_0) := (blk_cell BK396.out 0).trans rfl
                have hcz39_1 : w32.cell? ⟨gb396, 1, none⟩ = some (.int .i64 a0_1) := (blk_cell BK396.out 1).trans rfl
                have hcz39_2 : w32.cell? ⟨gb396, 2, none⟩ = some (.int .i64 a0_2) := (blk_cell BK396.out 2).trans rfl
                have hfz39_0 := blk_frozen BK396.out 0
                have hfz39_1 := blk_frozen BK396.out 1
                have hfz39_2 := blk_frozen BK396.out 2
                go_wp2
                go_meet
                case rel => exact ⟨_, (true), (by first | rfl | (simp; done) | (simp [*]; done)), H', ⟨by have := HJ5.out; first | omega | exact Nat.le_refl _⟩, ⟨by (with_reducible repeat (first | refine blk_drewN ?_ _ | refine blk_drew ?_ | refine blk_alloc ?_ _)); exact BK396.out⟩, ⟨by repeat (first | (with_reducible first | exact HB.out | apply below_alloc | apply pw_below_drewN | apply below_drew1 | refine below_set ?_ GE396.out) | exact HB.out)⟩⟩
            · replace c34 := Bool.eq_false_iff.mpr c34
              subst c34
              have H1 : (sackbutlaw04_TriadsVisits.j1 kj5 a1 false false a0_0 a0_1 a0_2) = some r := by rw [if_neg (show ¬ (false = true) by decide)] at H; exact H
              clear H
              have H := H1
              clear H1
              have H' := Aside0.mk H
              clear H
              go_wp2
              go_meet
              case rel => exact ⟨_, (false), (by first | rfl | (simp; done) | (simp [*]; done)), H', ⟨by have := HJ5.out; first | omega | exact Nat.le_refl _⟩, ⟨by (with_reducible repeat (first | refine blk_drewN ?_ _ | refine blk_drew ?_ | refine blk_alloc ?_ _)); exact BK396.out⟩, ⟨by repeat (first | (with_reducible first | exact HB.out | apply below_alloc | apply pw_below_drewN | apply below_drew1 | refine below_set ?_ GE396.out) | exact HB.out)⟩⟩
          · rw [if_neg c33] at H
            have c33b0 : (t411 == 0) = false := beq_eq_false_iff_ne.mpr c33
            have c33b1 : (t411 != 0) = true := bne_iff_ne.mpr c33
            (first | rw [c33b0] | (simp only [i64_w, i32_w]; rw [c33b0]) | skip)
            have H' := Aside0.mk H
            clear H
            go_wp2
            go_meet
            case rel => exact ⟨_, (true), (by first | rfl | (simp; done) | (simp [*]; done)), H', ⟨by have := HJ5.out; first | omega | exact Nat.le_refl _⟩, ⟨by (with_reducible repeat (first | refine blk_drewN ?_ _ | refine blk_drew ?_ | refine blk_alloc ?_ _)); exact BK396.out⟩, ⟨by repeat (first | (with_reducible first | exact HB.out | apply below_alloc | apply pw_below_drewN | apply below_drew1 | refine below_set ?_ GE396.out) | exact HB.out)⟩⟩
        case rest =>
          clear HC29
          try clear c1
          try clear c2
          try clear p2
          try clear c3
          try clear p6
          try clear c11
          try clear c12
          try clear c12b0
          try clear c12b1
          try clear c14
          try clear c17
          try clear c18
          try clear c20
          try clear c21
          try clear c21b0
          try clear c21b1
          try clear c24
          try clear c24b0
          try clear c24b1
          try clear c30
          try clear c33
          try clear c33b0
          try clear c33b1
          try clear c34
          try clear c35
          try clear c35b0
          try clear c35b1
          try clear c36
          try clear c36b0
          try clear c36b1
          try clear hcz16_0
          try clear hcz16_1
          try clear hcz16_2
          try clear hcz18_0
          try clear hcz18_1
          try clear hcz18_2
          try clear hcz30_0
          try clear hcz30_1
          try clear hcz30_2
          try clear hcz37_0
          try clear hcz37_1
          try clear hcz37_2
          try clear hcz38_0
          try clear hcz38_1
          try clear hcz38_2
          try clear hcz39_0
          try clear hcz39_1
          try clear hcz39_2
          try clear hcz8_0
          try clear hcz8_1
          try clear hcz8_2
          try clear hfz16_0
          try clear hfz16_1
          try clear hfz16_2
          try clear hfz18_0
          try clear hfz18_1
          try clear hfz18_2
          try clear hfz30_0
          try clear hfz30_1
          try clear hfz30_2
          try clear hfz37_0
          try clear hfz37_1
          try clear hfz37_2
          try clear hfz38_0
          try clear hfz38_1
          try clear hfz38_2
          try clear hfz39_0
          try clear hfz39_1
          try clear hfz39_2
          try clear hfz8_0
          try clear hfz8_1
          try clear hfz8_2
          try clear p2
          obtain ⟨kq, x70_28, rfl, HA, HJ28, BK396, HB⟩ := hcut
          cases kq with
          | zero => exact absurd HA.out (by simp [sackbutlaw04_TriadsVisits.j1])
          | succ kj28 =>
            have H := HA.out
            clear HA
            simp only [sackbutlaw04_TriadsVisits.j1] at H
            by_cases c40 : x70_28 = true
            · subst c40
              have H1 : (some false) = some r := by rw [if_pos rfl] at H; exact H
              clear H
              have H := H1
              clear H1
              obtain rfl := Option.some.inj H
              go_wp2
              go_ret
              exact ⟨by first | rfl | (simp [errW_none, errW_some] <;> rfl) | (simp [*, errW_none, errW_some] <;> rfl), by repeat (first | (with_reducible first | exact HB.out | apply below_alloc | apply pw_below_drewN | apply below_drew1 | refine below_set ?_ GE396.out) | exact HB.out)⟩
            · replace c40 := Bool.eq_false_iff.mpr c40
              subst c40
              have H1 : (if (a1.size : Int) > 30 then ((sackbutlaw04_awake.f).bind fun t412 => (some t412)) else ((sackbutlaw04_Of.f a0_0 a0_1 a0_2).bind fun bt413 => ((strings_Repeat.f a1 2).bind fun t416 => ((triads_Tour.f kj28 bt413.1 bt413.2.1 bt413.2.2 t416).bind fun bt417 => (if bt417.2 = 0 then (if (bt417.1 == t401) = true then ((sackbutlaw04_awake.f).bind fun t419 => (some t419)) else (some false)) else (some false)))))) = some r := by rw [if_neg (show ¬ (false = true) by decide)] at H; exact H
              clear H
              have H := H1
              clear H1
              by_cases c41 : (a1.size : Int) > 30
              · rw [if_pos c41] at H
                have c41b0 : decide (30 < (a1.size : Int)) = true := decide_eq_true c41
                have c41b1 : decide (30 < a1.size) = true := decide_eq_true (by omega)
                clear c41
                replace H := Option.bind_eq_some_iff.mp H
                obtain ⟨t412, A420, H⟩ := H
                replace H : (some t412) = some r := H
                have A42 := Aside0.mk A420
                clear A420
                obtain rfl := Option.some.inj H
                go_wp2_with (first | ((with_reducible refine gate_callee (f := 20) rfl ?_); refine goesL_ (some 74) rfl rfl Tryd.func20 (by kernel_rfl) rfl #[] rfl (by (try simp only [List.map_toArray, List.map_cons, List.map_nil]); first | done | rfl | (simp only [List.length_drop, List.length_take]; rfl)) ?_; (with_reducible refine (sackbutlaw04_awake.calls  t412 _ A42.out).mono ?_); rintro e w43 ⟨rfl, hb⟩; refine ⟨_, rfl, ?_⟩; have n0_ := Aside0.mk (blk_below (g := gb396) (o := .cells #[.int .i64 a0_0, .int .i64 a0_1, .int .i64 a0_2] 23 (0, 0)) (by (with_reducible repeat (first | refine blk_drewN ?_ _ | refine blk_drew ?_ | refine blk_alloc ?_ _)); exact BK396.out) hb); have n1_ := Aside0.mk (below_step (by repeat (first | (with_reducible first | exact HB.out | apply below_alloc | apply pw_below_drewN | apply below_drew1 | refine below_set ?_ GE396.out) | exact HB.out)) hb); clear BK396; clear HB; have BK396 := n0_; have HB := n1_; clear n0_ n1_; (try clear hb); (try clear hb2); (try clear hk); (try clear hi)))
                go_ret
                exact ⟨by first | rfl | (simp [errW_none, errW_some] <;> rfl) | (simp [*, errW_none, errW_some] <;> rfl), by repeat (first | (with_reducible first | exact HB.out | apply below_alloc | apply pw_below_drewN | apply below_drew1 | refine below_set ?_ GE396.out) | exact HB.out)⟩
              · rw [if_neg c41] at H
                have c41b0 : decide (30 < (a1.size : Int)) = false := decide_eq_false c41
                have c41b1 : decide (30 < a1.size) = false := decide_eq_false (by omega)
                clear c41
                replace H := Option.bind_eq_some_iff.mp H
                obtain ⟨⟨t413, t414, t415⟩, A440, H⟩ := H
                replace H : ((strings_Repeat.f a1 2).bind fun t416 => ((triads_Tour.f kj28 t413 t414 t415 t416).bind fun bt417 => (if bt417.2 = 0 then (if (bt417.1 == t401) = true then ((sackbutlaw04_awake.f).bind fun t419 => (some t419)) else (some false)) else (some false)))) = some r := H
                have A44 := Aside0.mk A440
                clear A440
                replace H := Option.bind_eq_some_iff.mp H
                obtain ⟨t416, A450, H⟩ := H
                replace H : ((triads_Tour.f kj28 t413 t414 t415 t416).bind fun bt417 => (if bt417.2 = 0 then (if (bt417.1 == t401) = true then ((sackbutlaw04_awake.f).bind fun t419 => (some t419)) else (some false)) else (some false))) = some r := H
                have A45 := Aside0.mk A450
                clear A450
                replace H := Option.bind_eq_some_iff.mp H
                obtain ⟨⟨t417, t418⟩, A460, H⟩ := H
                replace H : (if t418 = 0 then (if (t417 == t401) = true then ((sackbutlaw04_awake.f).bind fun t419 => (some t419)) else (some false)) else (some false)) = some r := H
                have A46 := Aside0.mk A460
                clear A460
                by_cases c47 : t418 = 0
                · rw [if_pos c47] at H
                  have c47b0 : (t418 == 0) = true := beq_iff_eq.mpr c47
                  have c47b1 : (t418 != 0) = false := bne_eq_false_iff_eq.mpr c47
                  clear c47
                  by_cases c48 : (t417 == t401) = true
                  · rw [if_pos c48] at H
                    have c48b0 : (t417 == t401) = true := c48
                    (try (have c48b1 : decide (t417 = t401) = true := by simpa using c48))
                    (try (have c48b2 : (t417 == t401) = true := by simpa using c48))
                    clear c48
                    replace H := Option.bind_eq_some_iff.mp H
                    obtain ⟨t419, A490, H⟩ := H
                    replace H : (some t419) = some r := H
                    have A49 := Aside0.mk A490
                    clear A490
                    obtain rfl := Option.some.inj H
                    have hcz50_0 : wc.cell? ⟨gb396, 0, none⟩ = some (.int .i64 a0_0) := (blk_cell BK396.out 0).trans rfl
                    have hcz50_1 : wc.cell? ⟨gb396, 1, none⟩ = some (.int .i64 a0_1) := (blk_cell BK396.out 1).trans rfl
                    have hcz50_2 : wc.cell? ⟨gb396, 2, none⟩ = some (.int .i64 a0_2) := (blk_cell BK396.out 2).trans rfl
                    have hfz50_0 := blk_frozen BK396.out 0
                    have hfz50_1 := blk_frozen BK396.out 1
                    have hfz50_2 := blk_frozen BK396.out 2
                    go_wp2_with (first | ((with_reducible refine gate_callee (f := 17) rfl ?_); refine goesL_ (some 77) rfl rfl Tryd.func17 (by kernel_rfl) rfl #[.agg #[.int .i64 a0_0, .int .i64 a0_1, .int .i64 a0_2]] rfl (by (try simp only [List.map_toArray, List.map_cons, List.map_nil]); first | done | rfl | (simp only [List.length_drop, List.length_take]; rfl)) ?_; (with_reducible refine (sackbutlaw04_Of.calls a0_0 a0_1 a0_2 t413 t414 t415 _ A44.out).mono ?_); rintro e w51 ⟨rfl, hb⟩; refine ⟨_, rfl, ?_⟩; have n0_ := Aside0.mk (blk_below (g := gb396) (o := .cells #[.int .i64 a0_0, .int .i64 a0_1, .int .i64 a0_2] 23 (0, 0)) (by (with_reducible repeat (first | refine blk_drewN ?_ _ | refine blk_drew ?_ | refine blk_alloc ?_ _)); exact BK396.out) hb); have n1_ := Aside0.mk (below_step (by repeat (first | (with_reducible first | exact HB.out | apply below_alloc | apply pw_below_drewN | apply below_drew1 | refine below_set ?_ GE396.out) | exact HB.out)) hb); clear BK396; clear HB; have BK396 := n0_; have HB := n1_; clear n0_ n1_; (try clear hb); (try clear hb2); (try clear hk); (try clear hi)) | ((with_reducible refine gate_callee (f := 43) rfl ?_); refine goesL_ (some 79) rfl rfl Tryd.func43 (by kernel_rfl) rfl #[.string a1, .int .i64 2] rfl (by (try simp only [List.map_toArray, List.map_cons, List.map_nil]); first | done | rfl | (simp only [List.length_drop, List.length_take]; rfl)) ?_; (with_reducible refine (strings_Repeat.calls a1 2 t416 _ A45.out).mono ?_); rintro e w52 ⟨rfl, hb⟩; refine ⟨_, rfl, ?_⟩; have n0_ := Aside0.mk (blk_below (g := gb396) (o := .cells #[.int .i64 a0_0, .int .i64 a0_1, .int .i64 a0_2] 23 (0, 0)) (by (with_reducible repeat (first | refine blk_drewN ?_ _ | refine blk_drew ?_ | refine blk_alloc ?_ _)); exact BK396.out) hb); have n1_ := Aside0.mk (below_step (by repeat (first | (with_reducible first | exact HB.out | apply below_alloc | apply pw_below_drewN | apply below_drew1 | refine below_set ?_ GE396.out) | exact HB.out)) hb); clear BK396; clear HB; have BK396 := n0_; have HB := n1_; clear n0_ n1_; (try clear hb); (try clear hb2); (try clear hk); (try clear hi)) | ((with_reducible refine gate_callee (f := 30) rfl ?_); refine goesL_ (some 80) rfl rfl Tryd.func30 (by kernel_rfl) rfl #[.agg #[.int .i64 t413, .int .i64 t414, .int .i64 t415], .string t416] rfl (by (try simp only [List.map_toArray, List.map_cons, List.map_nil]); first | done | rfl | (simp only [List.length_drop, List.length_take]; rfl)) ?_; (with_reducible refine (triads_Tour.calls kj28 t413 t414 t415 t416 t417 t418 _ A46.out).mono ?_); rintro e w53 ⟨rfl, hb⟩; refine ⟨_, rfl, ?_⟩; have n0_ := Aside0.mk (blk_below (g := gb396) (o := .cells #[.int .i64 a0_0, .int .i64 a0_1, .int .i64 a0_2] 23 (0, 0)) (by (with_reducible repeat (first | refine blk_drewN ?_ _ | refine blk_drew ?_ | refine blk_alloc ?_ _)); exact BK396.out) hb); have n1_ := Aside0.mk (below_step (by repeat (first | (with_reducible first | exact HB.out | apply below_alloc | apply pw_below_drewN | apply below_drew1 | refine below_set ?_ GE396.out) | exact HB.out)) hb); clear BK396; clear HB; have BK396 := n0_; have HB := n1_; clear n0_ n1_; (try clear hb); (try clear hb2); (try clear hk); (try clear hi)) | (go_at_call 20; (with_reducible refine (sackbutlaw04_awake.calls  t419 _ A49.out).mono ?_); rintro e w54 ⟨rfl, hb⟩; have n0_ := Aside0.mk (blk_below (g := gb396) (o := .cells #[.int .i64 a0_0, .int .i64 a0_1, .int .i64 a0_2] 23 (0, 0)) (by (with_reducible repeat (first | refine blk_drewN ?_ _ | refine blk_drew ?_ | refine blk_alloc ?_ _)); exact BK396.out) hb); have n1_ := Aside0.mk (below_step (by repeat (first | (with_reducible first | exact HB.out | apply below_alloc | apply pw_below_drewN | apply below_drew1 | refine below_set ?_ GE396.out) | exact HB.out)) hb); clear BK396; clear HB; have BK396 := n0_; have HB := n1_; clear n0_ n1_; (try clear hb); (try clear hb2); (try clear hk); (try clear hi)))
                    go_ret
                    exact ⟨by first | rfl | (simp [errW_none, errW_some] <;> rfl) | (simp [*, errW_none, errW_some] <;> rfl), by repeat (first | (with_reducible first | exact HB.out | apply below_alloc | apply pw_below_drewN | apply below_drew1 | refine below_set ?_ GE396.out) | exact HB.out)⟩
                  · rw [if_neg c48] at H
                    have c48b0 : (t417 == t401) = false := by simpa using c48
                    (try (have c48b1 : decide (t417 = t401) = false := by simpa using c48))
                    (try (have c48b2 : (t417 == t401) = false := by simpa using c48))
                    (try (have c48b3 : ¬ (t417 = t401) := by simpa using c48))
                    clear c48
                    obtain rfl := Option.some.inj H
                    have hcz55_0 : wc.cell? ⟨gb396, 0, none⟩ = some (.int .i64 a0_0) := (blk_cell BK396.out 0).trans rfl
                    have hcz55_1 : wc.cell? ⟨gb396, 1, none⟩ = some (.int .i64 a0_1) := (blk_cell BK396.out 1).trans rfl
                    have hcz55_2 : wc.cell? ⟨gb396, 2, none⟩ = some (.int .i64 a0_2) := (blk_cell BK396.out 2).trans rfl
                    have hfz55_0 := blk_frozen BK396.out 0
                    have hfz55_1 := blk_frozen BK396.out 1
                    have hfz55_2 := blk_frozen BK396.out 2
                    go_wp2_with (first | ((with_reducible refine gate_callee (f := 17) rfl ?_); refine goesL_ (some 77) rfl rfl Tryd.func17 (by kernel_rfl) rfl #[.agg #[.int .i64 a0_0, .int .i64 a0_1, .int .i64 a0_2]] rfl (by (try simp only [List.map_toArray, List.map_cons, List.map_nil]); first | done | rfl | (simp only [List.length_drop, List.length_take]; rfl)) ?_; (with_reducible refine (sackbutlaw04_Of.calls a0_0 a0_1 a0_2 t413 t414 t415 _ A44.out).mono ?_); rintro e w56 ⟨rfl, hb⟩; refine ⟨_, rfl, ?_⟩; have n0_ := Aside0.mk (blk_below (g := gb396) (o := .cells #[.int .i64 a0_0, .int .i64 a0_1, .int .i64 a0_2] 23 (0, 0)) (by (with_reducible repeat (first | refine blk_drewN ?_ _ | refine blk_drew ?_ | refine blk_alloc ?_ _)); exact BK396.out) hb); have n1_ := Aside0.mk (below_step (by repeat (first | (with_reducible first | exact HB.out | apply below_alloc | apply pw_below_drewN | apply below_drew1 | refine below_set ?_ GE396.out) | exact HB.out)) hb); clear BK396; clear HB; have BK396 := n0_; have HB := n1_; clear n0_ n1_; (try clear hb); (try clear hb2); (try clear hk); (try clear hi)) | ((with_reducible refine gate_callee (f := 43) rfl ?_); refine goesL_ (some 79) rfl rfl Tryd.func43 (by kernel_rfl) rfl #[.string a1, .int .i64 2] rfl (by (try simp only [List.map_toArray, List.map_cons, List.map_nil]); first | done | rfl | (simp only [List.length_drop, List.length_take]; rfl)) ?_; (with_reducible refine (strings_Repeat.calls a1 2 t416 _ A45.out).mono ?_); rintro e w57 ⟨rfl, hb⟩; refine ⟨_, rfl, ?_⟩; have n0_ := Aside0.mk (blk_below (g := gb396) (o := .cells #[.int .i64 a0_0, .int .i64 a0_1, .int .i64 a0_2] 23 (0, 0)) (by (with_reducible repeat (first | refine blk_drewN ?_ _ | refine blk_drew ?_ | refine blk_alloc ?_ _)); exact BK396.out) hb); have n1_ := Aside0.mk (below_step (by repeat (first | (with_reducible first | exact HB.out | apply below_alloc | apply pw_below_drewN | apply below_drew1 | refine below_set ?_ GE396.out) | exact HB.out)) hb); clear BK396; clear HB; have BK396 := n0_; have HB := n1_; clear n0_ n1_; (try clear hb); (try clear hb2); (try clear hk); (try clear hi)) | ((with_reducible refine gate_callee (f := 30) rfl ?_); refine goesL_ (some 80) rfl rfl Tryd.func30 (by kernel_rfl) rfl #[.agg #[.int .i64 t413, .int .i64 t414, .int .i64 t415], .string t416] rfl (by (try simp only [List.map_toArray, List.map_cons, List.map_nil]); first | done | rfl | (simp only [List.length_drop, List.length_take]; rfl)) ?_; (with_reducible refine (triads_Tour.calls kj28 t413 t414 t415 t416 t417 t418 _ A46.out).mono ?_); rintro e w58 ⟨rfl, hb⟩; refine ⟨_, rfl, ?_⟩; have n0_ := Aside0.mk (blk_below (g := gb396) (o := .cells #[.int .i64 a0_0, .int .i64 a0_1, .int .i64 a0_2] 23 (0, 0)) (by (with_reducible repeat (first | refine blk_drewN ?_ _ | refine blk_drew ?_ | refine blk_alloc ?_ _)); exact BK396.out) hb); have n1_ := Aside0.mk (below_step (by repeat (first | (with_reducible first | exact HB.out | apply below_alloc | apply pw_below_drewN | apply below_drew1 | refine below_set ?_ GE396.out) | exact HB.out)) hb); clear BK396; clear HB; have BK396 := n0_; have HB := n1_; clear n0_ n1_; (try clear hb); (try clear hb2); (try clear hk); (try clear hi)))
                    go_ret
                    exact ⟨by first | rfl | (simp [errW_none, errW_some] <;> rfl) | (simp [*, errW_none, errW_some] <;> rfl), by repeat (first | (with_reducible first | exact HB.out | apply below_alloc | apply pw_below_drewN | apply below_drew1 | refine below_set ?_ GE396.out) | exact HB.out)⟩
                · rw [if_neg c47] at H
                  have c47b0 : (t418 == 0) = false := beq_eq_false_iff_ne.mpr c47
                  have c47b1 : (t418 != 0) = true := bne_iff_ne.mpr c47
                  obtain rfl := Option.some.inj H
                  have hcz59_0 : wc.cell? ⟨gb396, 0, none⟩ = some (.int .i64 a0_0) := (blk_cell BK396.out 0).trans rfl
                  have hcz59_1 : wc.cell? ⟨gb396, 1, none⟩ = some (.int .i64 a0_1) := (blk_cell BK396.out 1).trans rfl
                  have hcz59_2 : wc.cell? ⟨gb396, 2, none⟩ = some (.int .i64 a0_2) := (blk_cell BK396.out 2).trans rfl
                  have hfz59_0 := blk_frozen BK396.out 0
                  have hfz59_1 := blk_frozen BK396.out 1
                  have hfz59_2 := blk_frozen BK396.out 2
                  go_wp2_with (first | ((with_reducible refine gate_callee (f := 17) rfl ?_); refine goesL_ (some 77) rfl rfl Tryd.func17 (by kernel_rfl) rfl #[.agg #[.int .i64 a0_0, .int .i64 a0_1, .int .i64 a0_2]] rfl (by (try simp only [List.map_toArray, List.map_cons, List.map_nil]); first | done | rfl | (simp only [List.length_drop, List.length_take]; rfl)) ?_; (with_reducible refine (sackbutlaw04_Of.calls a0_0 a0_1 a0_2 t413 t414 t415 _ A44.out).mono ?_); rintro e w60 ⟨rfl, hb⟩; refine ⟨_, rfl, ?_⟩; have n0_ := Aside0.mk (blk_below (g := gb396) (o := .cells #[.int .i64 a0_0, .int .i64 a0_1, .int .i64 a0_2] 23 (0, 0)) (by (with_reducible repeat (first | refine blk_drewN ?_ _ | refine blk_drew ?_ | refine blk_alloc ?_ _)); exact BK396.out) hb); have n1_ := Aside0.mk (below_step (by repeat (first | (with_reducible first | exact HB.out | apply below_alloc | apply pw_below_drewN | apply below_drew1 | refine below_set ?_ GE396.out) | exact HB.out)) hb); clear BK396; clear HB; have BK396 := n0_; have HB := n1_; clear n0_ n1_; (try clear hb); (try clear hb2); (try clear hk); (try clear hi)) | ((with_reducible refine gate_callee (f := 43) rfl ?_); refine goesL_ (some 79) rfl rfl Tryd.func43 (by kernel_rfl) rfl #[.string a1, .int .i64 2] rfl (by (try simp only [List.map_toArray, List.map_cons, List.map_nil]); first | done | rfl | (simp only [List.length_drop, List.length_take]; rfl)) ?_; (with_reducible refine (strings_Repeat.calls a1 2 t416 _ A45.out).mono ?_); rintro e w61 ⟨rfl, hb⟩; refine ⟨_, rfl, ?_⟩; have n0_ := Aside0.mk (blk_below (g := gb396) (o := .cells #[.int .i64 a0_0, .int .i64 a0_1, .int .i64 a0_2] 23 (0, 0)) (by (with_reducible repeat (first | refine blk_drewN ?_ _ | refine blk_drew ?_ | refine blk_alloc ?_ _)); exact BK396.out) hb); have n1_ := Aside0.mk (below_step (by repeat (first | (with_reducible first | exact HB.out | apply below_alloc | apply pw_below_drewN | apply below_drew1 | refine below_set ?_ GE396.out) | exact HB.out)) hb); clear BK396; clear HB; have BK396 := n0_; have HB := n1_; clear n0_ n1_; (try clear hb); (try clear hb2); (try clear hk); (try clear hi)) | ((with_reducible refine gate_callee (f := 30) rfl ?_); refine goesL_ (some 80) rfl rfl Tryd.func30 (by kernel_rfl) rfl #[.agg #[.int .i64 t413, .int .i64 t414, .int .i64 t415], .string t416] rfl (by (try simp only [List.map_toArray, List.map_cons, List.map_nil]); first | done | rfl | (simp only [List.length_drop, List.length_take]; rfl)) ?_; (with_reducible refine (triads_Tour.calls kj28 t413 t414 t415 t416 t417 t418 _ A46.out).mono ?_); rintro e w62 ⟨rfl, hb⟩; refine ⟨_, rfl, ?_⟩; have n0_ := Aside0.mk (blk_below (g := gb396) (o := .cells #[.int .i64 a0_0, .int .i64 a0_1, .int .i64 a0_2] 23 (0, 0)) (by (with_reducible repeat (first | refine blk_drewN ?_ _ | refine blk_drew ?_ | refine blk_alloc ?_ _)); exact BK396.out) hb); have n1_ := Aside0.mk (below_step (by repeat (first | (with_reducible first | exact HB.out | apply below_alloc | apply pw_below_drewN | apply below_drew1 | refine below_set ?_ GE396.out) | exact HB.out)) hb); clear BK396; clear HB; have BK396 := n0_; have HB := n1_; clear n0_ n1_; (try clear hb); (try clear hb2); (try clear hk); (try clear hi)))
                  go_ret
                  exact ⟨by first | rfl | (simp [errW_none, errW_some] <;> rfl) | (simp [*, errW_none, errW_some] <;> rfl), by repeat (first | (with_reducible first | exact HB.out | apply below_alloc | apply pw_below_drewN | apply below_drew1 | refine below_set ?_ GE396.out) | exact HB.out)⟩

end Go.Proofs.YtpaeobpmkdekfaaDoor.P
end

section
namespace Go.Proofs.YtpaeobpmkdekfaaDoor.Base
open Go.RowKit Go.Proofs.YtpaeobpmkdekfaaDoor.P Go.Proofs.YtpaeobpmkdekfaaDoor.Kit Go.Proofs.YtpaeobpmkdekfaaDoorW.PrintWords Go.Proofs.YtpaeobpmkdekfaaDoorW.PrintLast Go.Proofs.YtpaeobpmkdekfaaDoorW.PrintMore Go.Proofs.YtpaeobpmkdekfaaDoor.Tri
/-- The bits of a number below 2 to the 32. -/
def cnt32 (m : Nat) : Nat := (List.range 32).countP fun i => m.testBit i
theorem ones8 : ∀ x : Fin 256, Lib.onesCount x.val = (List.range 8).countP fun i => x.val.testBit i := by decide +kernel
theorem ones_mod (m k : Nat) : Lib.onesCount (m / 2 ^ k % 256) = (List.range 8).countP fun i => m.testBit (k + i) := by
  rw [ones8 ⟨m / 2 ^ k % 256, Nat.mod_lt _ (by decide)⟩]
  refine List.countP_congr ?_
  intro i hi
  have hi8 := List.mem_range.1 hi
  simp only
  rw [show (256 : Nat) = 2 ^ 8 from rfl, Nat.testBit_mod_two_pow, Nat.testBit_div_two_pow, decide_eq_true hi8, Bool.true_and, Nat.add_comm k i]
theorem range32 (p : Nat → Bool) : (List.range 32).countP p = (List.range 8).countP (fun i => p (24 + i)) + (List.range 8).countP (fun i => p (16 + i)) + (List.range 8).countP (fun i => p (8 + i)) + (List.range 8).countP (fun i => p (0 + i)) := by
  simp only [show List.range 32 = [0, 1, 2, 3, 4, 5, 6, 7, 8, 9, 10, 11, 12, 13, 14, 15, 16, 17, 18, 19, 20, 21, 22, 23, 24, 25, 26, 27, 28, 29, 30, 31] from rfl, show List.range 8 = [0, 1, 2, 3, 4, 5, 6, 7] from rfl, List.countP_cons, List.countP_nil, Nat.reduceAdd]
  omega
theorem pop32_cnt (m : Nat) (hm : m < 2 ^ 32) : pop32 m = cnt32 m := by
  unfold pop32 cnt32
  rw [range32, ← ones_mod m 24, ← ones_mod m 16, ← ones_mod m 8, ← ones_mod m 0]
  have h : m / 16777216 < 256 := by omega
  rw [show (2 ^ 24 : Nat) = 16777216 from rfl, Nat.mod_eq_of_lt h, show (2 ^ 16 : Nat) = 65536 from rfl, show (2 ^ 8 : Nat) = 256 from rfl, show (2 ^ 0 : Nat) = 1 from rfl, Nat.div_one]
theorem countP_one (p : Nat → Bool) (v : Nat) : ∀ l : List Nat, l.Nodup → p v = false → l.countP (fun i => p i || decide (v = i)) = l.countP p + if v ∈ l then 1 else 0
  | [], _, _ => rfl
  | x :: l, hn, hp => by
    obtain ⟨h1, h2⟩ := List.nodup_cons.1 hn
    rw [List.countP_cons, List.countP_cons, countP_one p v l h2 hp]
    by_cases e : v = x
    · subst e
      rw [if_neg h1, hp]
      simp
    · rw [decide_eq_false e, Bool.or_false]
      by_cases hv : v ∈ l
      · rw [if_pos hv, if_pos (List.mem_cons_of_mem _ hv)]; omega
      · have hvx : ¬ v ∈ x :: l := fun g => by
          rcases List.mem_cons.1 g with g | g
          · exact e g
          · exact hv g
        rw [if_neg hv, if_neg hvx]
        omega
theorem test_or (m v i : Nat) : (m ||| 2 ^ v).testBit i = (m.testBit i || decide (v = i)) := by
  rw [Nat.testBit_or, Nat.testBit_two_pow]
theorem cnt32_or (m v : Nat) (hv : v < 32) (hm : m.testBit v = false) : cnt32 (m ||| 2 ^ v) = cnt32 m + 1 := by
  unfold cnt32
  simp only [test_or]
  rw [countP_one (fun i => m.testBit i) v _ List.nodup_range hm, if_pos (List.mem_range.2 hv)]
theorem wraps_u32 (n : Int) (h0 : 0 ≤ n) (h1 : n < 2 ^ 32) : IntKind.u32.wrap n = n := by
  show n % 4294967296 = n
  omega
theorem and32 (a b : Nat) (ha : a < 2 ^ 32) (hb : b < 2 ^ 32) : Go.bits .and .u32 (a : Int) (b : Int) = ((a &&& b : Nat) : Int) := (bits_nat .u32 32 (by decide) wraps_u32 a b ha hb).1
theorem or32 (a b : Nat) (ha : a < 2 ^ 32) (hb : b < 2 ^ 32) : Go.bits .or .u32 (a : Int) (b : Int) = ((a ||| b : Nat) : Int) := (bits_nat .u32 32 (by decide) wraps_u32 a b ha hb).2
theorem shl32 (x : Nat) (hx : x < 32) : shl .u32 1 (x : Int) = ((2 ^ x : Nat) : Int) := by
  have h : 2 ^ x < 2 ^ 32 := Nat.pow_lt_pow_right (by decide) hx
  unfold shl
  rw [Int.toNat_natCast, Nat.min_eq_left (by show x ≤ 32; omega), Int.one_mul]
  have e : (2 : Int) ^ x = ((2 ^ x : Nat) : Int) := by simp
  rw [e]
  exact wraps_u32 _ (Int.natCast_nonneg _) (by exact_mod_cast h)
theorem bit32 (s x : Nat) (hs : s < 2 ^ 32) (hx : x < 32) : Go.bits .and .u32 (shr .u32 (s : Int) (x : Int)) 1 = if s.testBit x then 1 else 0 := by
  have e : shr .u32 (s : Int) (x : Int) = ((s / 2 ^ x : Nat) : Int) := by
    unfold shr
    rw [Int.toNat_natCast, Nat.min_eq_left (by show x ≤ 32; omega)]
    simp
  rw [e]
  have h1 : s / 2 ^ x < 2 ^ 32 := Nat.lt_of_le_of_lt (Nat.div_le_self _ _) hs
  have := and32 (s / 2 ^ x) 1 h1 (by decide)
  rw [show ((1 : Nat) : Int) = 1 from rfl] at this
  rw [this, Nat.and_one_is_mod, Nat.testBit_eq_decide_div_mod_eq]
  have h2 : s / 2 ^ x % 2 < 2 := Nat.mod_lt _ (by decide)
  by_cases h : s / 2 ^ x % 2 = 1
  · simp [h]
  · have : s / 2 ^ x % 2 = 0 := by omega
    simp [this]
/-- The letters of a walk that is repeated. -/
def letter (l : List UInt8) (i : Nat) : UInt8 := l.getD (i % l.length) 0
/-- Its first letters. -/
def word (l : List UInt8) (i : Nat) : List UInt8 := (List.range i).map (letter l)
/-- Where it is after some steps. -/
def q (n a b : Int) (l : List UInt8) (i : Nat) : Int := walkI n a b (word l i) 0
theorem q_succ (n a b : Int) (l : List UInt8) (i : Nat) : q n a b l (i + 1) = stepI n a b (q n a b l i) ((letter l i).toNat : Int) := by
  unfold q word
  rw [List.range_succ, List.map_append, walk_append]
  rfl
theorem q_range {n a b : Int} (hn : 0 < n) (l : List UInt8) (i : Nat) : 0 ≤ q n a b l i ∧ q n a b l i < 2 * n := walk_range hn a b _ 0 (by omega) (by omega)
/-- Whether it visits all. -/
def Visits (n a b : Int) (l : List UInt8) : Prop := (∀ i j : Nat, i < j → (j : Int) < 2 * n → q n a b l i ≠ q n a b l j) ∧ q n a b l (2 * n).toNat = 0
theorem tour_l0 {n a b : Int} (hk : isKind n a b = true) (s : ByteArray) (hs : 0 < s.size) (v : Bool) (hv : v = true ↔ Visits n a b s.data.toList) : ∀ (d i m : Nat), i + d = (2 * n).toNat → m < 2 ^ 32 → (∀ x : Nat, x < 32 → (m.testBit x = true ↔ ∃ j, j < i ∧ q n a b s.data.toList j = (x : Int))) → cnt32 m = i → (∀ j k : Nat, j < k → k < i → q n a b s.data.toList j ≠ q n a b s.data.toList k) → Ev (fun k => triads_Kind_tour.l0 k s (m : Int) (q n a b s.data.toList i) (2 * n) (i : Int) n a b) v
  | 0, i, m, hi, hm, hbit, hc, hd => by
    have hn := kind_pos' hk
    have h16 := (of_decide_eq_true hk).2.1
    refine Ev.done fun k => ?_
    simp only [triads_Kind_tour.l0]
    rw [if_neg (by omega)]
    by_cases h0 : q n a b s.data.toList i = 0
    · rw [if_pos h0]
      unfold bits_OnesCount32.f
      rw [if_pos ⟨by omega, by omega⟩, Int.toNat_natCast, pop32_cnt m hm, hc, w64 (x := 2 * n) (by omega) (by omega)]
      have hvt : v = true := hv.2 ⟨fun j k hjk hk2 => hd j k hjk (by omega), by rw [show (2 * n).toNat = i by omega]; exact h0⟩
      rw [hvt]
      simp only [Option.bind_some, Option.some.injEq, beq_iff_eq]
      omega
    · rw [if_neg h0]
      congr 1
      symm
      cases hvv : v with
      | false => rfl
      | true =>
        have := (hv.1 hvv).2
        rw [show (2 * n).toNat = i by omega] at this
        exact absurd this h0
  | d + 1, i, m, hi, hm, hbit, hc, hd => by
    have hn := kind_pos' hk
    have h16 := (of_decide_eq_true hk).2.1
    have hq := q_range (a := a) (b := b) hn s.data.toList i
    obtain ⟨x, hx⟩ : ∃ x : Nat, (x : Int) = q n a b s.data.toList i := ⟨(q n a b s.data.toList i).toNat, by omega⟩
    have hx32 : x < 32 := by omega
    have hb1 := bit32 m x hm hx32
    have hbx := hbit x hx32
    have hll := data_length s
    cases ht : m.testBit x with
    | true =>
      refine Ev.done fun k => ?_
      simp only [triads_Kind_tour.l0]
      rw [if_pos (by omega), if_pos (by omega), ← hx, hb1, ht, if_pos rfl, if_pos rfl]
      congr 1
      symm
      cases hvv : v with
      | false => rfl
      | true =>
        obtain ⟨j, hj, he⟩ := hbx.1 ht
        exact absurd (he.trans hx) ((hv.1 hvv).1 j i hj (by omega))
    | false =>
      have hpow : 2 ^ x < 2 ^ 32 := Nat.pow_lt_pow_right (by decide) hx32
      have hmod : Int.tmod (i : Int) (s.size : Int) = ((i % s.size : Nat) : Int) := by
        rw [Int.tmod_eq_emod_of_nonneg (by omega)]
        simp
      have hlt := Nat.mod_lt i hs
      have hbt := bt_nat s (i % s.size) (by omega)
      have hlet : s.data.toList.getD (i % s.size) 0 = letter s.data.toList i := by unfold letter; rw [hll]
      have hne : ∀ j, j < i → q n a b s.data.toList j ≠ q n a b s.data.toList i := by
        intro j hj e
        have := hbx.2 ⟨j, hj, e.trans hx.symm⟩
        rw [ht] at this
        cases this
      refine Ev.step (fun k => ?_) (tour_l0 hk s hs v hv d (i + 1) (m ||| 2 ^ x) (by omega) (Nat.or_lt_two_pow hm hpow) ?_ (by rw [cnt32_or m x hx32 ht, hc]) ?_)
      · simp only [triads_Kind_tour.l0]
        rw [if_pos (by omega), if_pos (by omega), ← hx, hb1, ht, hmod, if_neg (by decide), if_neg (by omega), if_pos (by omega), if_pos (by omega), hbt, step_f hk (x : Int) _ (by omega) (by omega), hlet, shl32 x hx32, or32 m (2 ^ x) hm hpow, w64 (x := (i : Int) + 1) (by omega) (by omega), q_succ, ← hx]
        rfl
      · intro y hy
        rw [test_or, Bool.or_eq_true, decide_eq_true_eq, hbit y hy]
        constructor
        · rintro (⟨j, hj, e⟩ | e)
          · exact ⟨j, by omega, e⟩
          · exact ⟨i, by omega, by rw [← e]; exact hx.symm⟩
        · rintro ⟨j, hj, e⟩
          by_cases hji : j = i
          · subst hji
            right
            omega
          · exact .inl ⟨j, by omega, e⟩
      · intro j k hjk hk1
        by_cases hki : k = i
        · subst hki
          exact hne j hjk
        · exact hd j k hjk (by omega)
theorem tour_f {n a b : Int} (hk : isKind n a b = true) (s : ByteArray) (hs : 0 < s.size) (v : Bool) (hv : v = true ↔ Visits n a b s.data.toList) : Ev (fun k => triads_Kind_tour.f k n a b s) v := by
  have hn := kind_pos' hk
  have h16 := (of_decide_eq_true hk).2.1
  unfold triads_Kind_tour.f
  rw [w64 (x := 2 * n) (by omega) (by omega)]
  refine tour_l0 hk s hs v hv (2 * n).toNat 0 0 (by omega) (by decide) ?_ (by decide) (fun j k _ h => by omega)
  intro x _
  rw [Nat.zero_testBit]
  constructor
  · intro h; cases h
  · rintro ⟨j, hj, _⟩; omega
/-- What Tour answers. -/
def tourV (n a b : Int) (l : List UInt8) : Bool := !l.isEmpty && (decide ((List.range (2 * n).toNat).map (q n a b l)).Nodup && decide (q n a b l (2 * n).toNat = 0))
theorem tourV_iff (n a b : Int) (l : List UInt8) : tourV n a b l = true ↔ l ≠ [] ∧ Visits n a b l := by
  unfold tourV Visits
  rw [Bool.and_eq_true, Bool.and_eq_true, decide_eq_true_eq, decide_eq_true_eq, Bool.not_eq_true', List.isEmpty_eq_false_iff, List.Nodup, List.pairwise_map, List.pairwise_iff_getElem]
  refine and_congr_right fun _ => and_congr_left fun _ => ?_
  constructor
  · intro h i j hij hj
    have := h i j (by rw [List.length_range]; omega) (by rw [List.length_range]; omega) hij
    rw [List.getElem_range, List.getElem_range] at this
    exact this
  · intro h i j hi hj hij
    rw [List.length_range] at hi hj
    rw [List.getElem_range, List.getElem_range]
    exact h i j hij (by omega)
theorem Tour_f (n a b : Int) (s : ByteArray) (hn : Int64 n) (ha : Int64 a) (hb : Int64 b) : Ev (fun k => triads_Tour.f k n a b s) (if isKind n a b = true then (if isWalkB s = true then (tourV n a b s.data.toList, 0) else (false, 3)) else (false, 2)) := by
  unfold triads_Tour.f
  rw [valid_f n a b hn ha hb]
  simp only [Option.bind_some, isWalk_f]
  cases hk : isKind n a b with
  | false => simp only [Bool.false_eq_true, if_false]; exact Ev.now _
  | true =>
    cases hw : isWalkB s with
    | false => simp only [Bool.false_eq_true, if_false, if_true]; exact Ev.now _
    | true =>
      simp only [if_true]
      have hl := data_length s
      by_cases he : s.toList = []
      · rw [ByteArray.toList_eq] at he
        have : tourV n a b s.data.toList = false := by
          cases h : tourV n a b s.data.toList with
          | false => rfl
          | true => exact absurd he ((tourV_iff n a b _).1 h).1
        rw [this]
        simp only [ByteArray.toList_eq, he, if_true]
        exact Ev.now _
      · rw [ByteArray.toList_eq] at he
        have hs : 0 < s.size := by
          have := List.length_pos_iff.2 he
          omega
        simp only [ByteArray.toList_eq, he, if_false]
        refine Ev.bind (tour_f hk s hs (tourV n a b s.data.toList) ?_) (Ev.now _)
        rw [tourV_iff]
        exact ⟨fun h => h.2, fun h => ⟨he, h⟩⟩
end Go.Proofs.YtpaeobpmkdekfaaDoor.Base
end
