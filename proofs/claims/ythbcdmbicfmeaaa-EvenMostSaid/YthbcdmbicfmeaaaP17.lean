-- Written by this session's program (wip/tools/myprint.py) out of the translation.
import Derived.Test.YthbcdmbicfmeaaaP0
import Derived.Test.YthbcdmbicfmeaaaP1
import Derived.Test.YthbcdmbicfmeaaaP2
import Derived.Test.YthbcdmbicfmeaaaP3
import Derived.Test.YthbcdmbicfmeaaaP5
import Derived.Test.YthbcdmbicfmeaaaP6
import Derived.Test.YthbcdmbicfmeaaaP14
import Derived.Test.YthbcdmbicfmeaaaP15
namespace Go.Proofs.Ythbcdmbicfmeaaa.P
open Go.RowKit Go.Proofs.YthbcdmbicfmeaaaW.PrintWords Go.Proofs.YthbcdmbicfmeaaaW.PrintLast Go.Proofs.YthbcdmbicfmeaaaW.PrintMore
attribute [local go_sem] max2_int min2_int max_two min_two max_three min_three max_four min_four   -- for this text's walks alone
set_option linter.unusedVariables false
set_option linter.unusedSimpArgs false

/-! ### sackbutlaw03_EvenMost: function 12 -/
mutual
def sackbutlaw03_EvenMost.j0 : Nat → Int → Int → Int → List Int → Int → List Int → Int → Bool → Option (Bool)
  | 0, _, _, _, _, _, _, _, _ => none
  | k + 1, x0, x1, x2, x7, x8, x9, x10, x34 => if x34 = true then (if x8 = 2 then (if x10 = x8 then ((sackbutlaw03_awake.f k).bind fun t442 => (some t442)) else (some false)) else (some false)) else (if x10 = 0 then (if (x7.length : Int) = 0 then (sackbutlaw03_EvenMost.j1 k x0 x1 x2 x7 true) else ((slices_Equal_int_int.f k x7 x9).bind fun t443 => (sackbutlaw03_EvenMost.j1 k x0 x1 x2 x7 (!t443)))) else (sackbutlaw03_EvenMost.j1 k x0 x1 x2 x7 true))
def sackbutlaw03_EvenMost.j1 : Nat → Int → Int → Int → List Int → Bool → Option (Bool)
  | 0, _, _, _, _, _ => none
  | k + 1, x0, x1, x2, x7, x57 => if x57 = true then (some false) else (if 0 < (x7.length : Int) then ((even_Sum.f k x0 (rd x7 0)).bind fun bt445 => ((even_Sum.f k x0 x2).bind fun bt447 => ((even_Even.f k x0 x2).bind fun bt449 => (if bt445.2 = 0 then (sackbutlaw03_EvenMost.j2 k x0 x1 x2 bt447.2 bt445.1 bt447.1 bt449.1 (bt447.2 != bt449.2)) else (sackbutlaw03_EvenMost.j2 k x0 x1 x2 bt447.2 bt445.1 bt447.1 bt449.1 true))))) else (none))
def sackbutlaw03_EvenMost.j2 : Nat → Int → Int → Int → Int → Int → Int → Bool → Bool → Option (Bool)
  | 0, _, _, _, _, _, _, _, _ => none
  | k + 1, x0, x1, x2, x10, x11, x12, x13, x84 => if x84 = true then (some false) else (if x10 = 0 then ((sackbutref03_Scale.f x0 x2).bind fun t451 => (if t451 = true then ((sackbutref03_Tones.f k x0 x2).bind fun t452 => (sackbutlaw03_EvenMost.j3 k x10 x11 x12 x13 ((t452.length : Int) != x1))) else (sackbutlaw03_EvenMost.j3 k x10 x11 x12 x13 true))) else (sackbutlaw03_EvenMost.j3 k x10 x11 x12 x13 true))
def sackbutlaw03_EvenMost.j3 : Nat → Int → Int → Int → Bool → Bool → Option (Bool)
  | 0, _, _, _, _, _ => none
  | k + 1, x10, x11, x12, x13, x100 => if x100 = true then (if x10 = 0 then ((sackbutlaw03_awake.f k).bind fun t455 => (some t455)) else (if x10 = 2 then ((sackbutlaw03_awake.f k).bind fun t456 => (some t456)) else (some false))) else (if x12 ≤ x11 then (if ((x12 == x11) == x13) = true then ((sackbutlaw03_awake.f k).bind fun t457 => (some t457)) else (some false)) else (some false))
end
def sackbutlaw03_EvenMost.f (k : Nat) (a0 : Int) (a1 : Int) (a2 : Int) : Option (Bool) := (even_Most.f k a0 a1).bind fun bt433 => ((even_List.f k a0 a1).bind fun bt437 => (if bt433.2 = 0 then ((sackbutref03_Part.f a0 a1).bind fun t441 => (sackbutlaw03_EvenMost.j0 k a0 a1 a2 bt433.1 bt433.2 bt437.1 bt437.2 (!t441))) else (sackbutlaw03_EvenMost.j0 k a0 a1 a2 bt433.1 bt433.2 bt437.1 bt437.2 true)))
theorem sackbutlaw03_EvenMost.mono_l : ∀ k, (∀ y0 y1 y2 y3 y4 y5 y6 y7, LeO (sackbutlaw03_EvenMost.j0 k y0 y1 y2 y3 y4 y5 y6 y7) (sackbutlaw03_EvenMost.j0 (k + 1) y0 y1 y2 y3 y4 y5 y6 y7)) ∧ (∀ y0 y1 y2 y3 y4, LeO (sackbutlaw03_EvenMost.j1 k y0 y1 y2 y3 y4) (sackbutlaw03_EvenMost.j1 (k + 1) y0 y1 y2 y3 y4)) ∧ (∀ y0 y1 y2 y3 y4 y5 y6 y7, LeO (sackbutlaw03_EvenMost.j2 k y0 y1 y2 y3 y4 y5 y6 y7) (sackbutlaw03_EvenMost.j2 (k + 1) y0 y1 y2 y3 y4 y5 y6 y7)) ∧ (∀ y0 y1 y2 y3 y4, LeO (sackbutlaw03_EvenMost.j3 k y0 y1 y2 y3 y4) (sackbutlaw03_EvenMost.j3 (k + 1) y0 y1 y2 y3 y4))
  | 0 => ⟨fun _ _ _ _ _ _ _ _ r h => by simp [sackbutlaw03_EvenMost.j0] at h, fun _ _ _ _ _ r h => by simp [sackbutlaw03_EvenMost.j1] at h, fun _ _ _ _ _ _ _ _ r h => by simp [sackbutlaw03_EvenMost.j2] at h, fun _ _ _ _ _ r h => by simp [sackbutlaw03_EvenMost.j3] at h⟩
  | k + 1 => by
    obtain ⟨ih0, ih1, ih2, ih3⟩ := sackbutlaw03_EvenMost.mono_l k
    refine ⟨?_, ?_, ?_, ?_⟩
    · intro y0 y1 y2 y3 y4 y5 y6 y7
      unfold sackbutlaw03_EvenMost.j0
      repeat' first
      | (with_reducible exact ih0 _ _ _ _ _ _ _ _)
      | (with_reducible exact ih1 _ _ _ _ _)
      | (with_reducible exact ih2 _ _ _ _ _ _ _ _)
      | (with_reducible exact ih3 _ _ _ _ _)
      | (with_reducible exact even_Even.mono _ _ _)
      | (with_reducible exact even_List.mono _ _ _)
      | (with_reducible exact even_Most.mono _ _ _)
      | (with_reducible exact even_Sum.mono _ _ _)
      | (with_reducible exact sackbutlaw03_awake.mono _)
      | (with_reducible exact sackbutref03_Tones.mono _ _ _)
      | (with_reducible exact slices_Equal_int_int.mono _ _ _)
      | (with_reducible exact LeO.refl _)
      | (with_reducible exact LeO.none _)
      | (with_reducible refine LeO.ite ?_ ?_)
      | (with_reducible refine LeO.bind ?_ (fun _ => ?_))
      | exact ih0 _ _ _ _ _ _ _ _
      | exact ih1 _ _ _ _ _
      | exact ih2 _ _ _ _ _ _ _ _
      | exact ih3 _ _ _ _ _
      | exact even_Even.mono _ _ _
      | exact even_List.mono _ _ _
      | exact even_Most.mono _ _ _
      | exact even_Sum.mono _ _ _
      | exact sackbutlaw03_awake.mono _
      | exact sackbutref03_Tones.mono _ _ _
      | exact slices_Equal_int_int.mono _ _ _
      | exact LeO.none _
      | refine LeO.ite ?_ ?_
      | refine LeO.bind ?_ (fun _ => ?_)
    · intro y0 y1 y2 y3 y4
      unfold sackbutlaw03_EvenMost.j1
      repeat' first
      | (with_reducible exact ih0 _ _ _ _ _ _ _ _)
      | (with_reducible exact ih1 _ _ _ _ _)
      | (with_reducible exact ih2 _ _ _ _ _ _ _ _)
      | (with_reducible exact ih3 _ _ _ _ _)
      | (with_reducible exact even_Even.mono _ _ _)
      | (with_reducible exact even_List.mono _ _ _)
      | (with_reducible exact even_Most.mono _ _ _)
      | (with_reducible exact even_Sum.mono _ _ _)
      | (with_reducible exact sackbutlaw03_awake.mono _)
      | (with_reducible exact sackbutref03_Tones.mono _ _ _)
      | (with_reducible exact slices_Equal_int_int.mono _ _ _)
      | (with_reducible exact LeO.refl _)
      | (with_reducible exact LeO.none _)
      | (with_reducible refine LeO.ite ?_ ?_)
      | (with_reducible refine LeO.bind ?_ (fun _ => ?_))
      | exact ih0 _ _ _ _ _ _ _ _
      | exact ih1 _ _ _ _ _
      | exact ih2 _ _ _ _ _ _ _ _
      | exact ih3 _ _ _ _ _
      | exact even_Even.mono _ _ _
      | exact even_List.mono _ _ _
      | exact even_Most.mono _ _ _
      | exact even_Sum.mono _ _ _
      | exact sackbutlaw03_awake.mono _
      | exact sackbutref03_Tones.mono _ _ _
      | exact slices_Equal_int_int.mono _ _ _
      | exact LeO.none _
      | refine LeO.ite ?_ ?_
      | refine LeO.bind ?_ (fun _ => ?_)
    · intro y0 y1 y2 y3 y4 y5 y6 y7
      unfold sackbutlaw03_EvenMost.j2
      repeat' first
      | (with_reducible exact ih0 _ _ _ _ _ _ _ _)
      | (with_reducible exact ih1 _ _ _ _ _)
      | (with_reducible exact ih2 _ _ _ _ _ _ _ _)
      | (with_reducible exact ih3 _ _ _ _ _)
      | (with_reducible exact even_Even.mono _ _ _)
      | (with_reducible exact even_List.mono _ _ _)
      | (with_reducible exact even_Most.mono _ _ _)
      | (with_reducible exact even_Sum.mono _ _ _)
      | (with_reducible exact sackbutlaw03_awake.mono _)
      | (with_reducible exact sackbutref03_Tones.mono _ _ _)
      | (with_reducible exact slices_Equal_int_int.mono _ _ _)
      | (with_reducible exact LeO.refl _)
      | (with_reducible exact LeO.none _)
      | (with_reducible refine LeO.ite ?_ ?_)
      | (with_reducible refine LeO.bind ?_ (fun _ => ?_))
      | exact ih0 _ _ _ _ _ _ _ _
      | exact ih1 _ _ _ _ _
      | exact ih2 _ _ _ _ _ _ _ _
      | exact ih3 _ _ _ _ _
      | exact even_Even.mono _ _ _
      | exact even_List.mono _ _ _
      | exact even_Most.mono _ _ _
      | exact even_Sum.mono _ _ _
      | exact sackbutlaw03_awake.mono _
      | exact sackbutref03_Tones.mono _ _ _
      | exact slices_Equal_int_int.mono _ _ _
      | exact LeO.none _
      | refine LeO.ite ?_ ?_
      | refine LeO.bind ?_ (fun _ => ?_)
    · intro y0 y1 y2 y3 y4
      unfold sackbutlaw03_EvenMost.j3
      repeat' first
      | (with_reducible exact ih0 _ _ _ _ _ _ _ _)
      | (with_reducible exact ih1 _ _ _ _ _)
      | (with_reducible exact ih2 _ _ _ _ _ _ _ _)
      | (with_reducible exact ih3 _ _ _ _ _)
      | (with_reducible exact even_Even.mono _ _ _)
      | (with_reducible exact even_List.mono _ _ _)
      | (with_reducible exact even_Most.mono _ _ _)
      | (with_reducible exact even_Sum.mono _ _ _)
      | (with_reducible exact sackbutlaw03_awake.mono _)
      | (with_reducible exact sackbutref03_Tones.mono _ _ _)
      | (with_reducible exact slices_Equal_int_int.mono _ _ _)
      | (with_reducible exact LeO.refl _)
      | (with_reducible exact LeO.none _)
      | (with_reducible refine LeO.ite ?_ ?_)
      | (with_reducible refine LeO.bind ?_ (fun _ => ?_))
      | exact ih0 _ _ _ _ _ _ _ _
      | exact ih1 _ _ _ _ _
      | exact ih2 _ _ _ _ _ _ _ _
      | exact ih3 _ _ _ _ _
      | exact even_Even.mono _ _ _
      | exact even_List.mono _ _ _
      | exact even_Most.mono _ _ _
      | exact even_Sum.mono _ _ _
      | exact sackbutlaw03_awake.mono _
      | exact sackbutref03_Tones.mono _ _ _
      | exact slices_Equal_int_int.mono _ _ _
      | exact LeO.none _
      | refine LeO.ite ?_ ?_
      | refine LeO.bind ?_ (fun _ => ?_)
theorem sackbutlaw03_EvenMost.mono : ∀ a0 a1 a2 k, LeO (sackbutlaw03_EvenMost.f k a0 a1 a2) (sackbutlaw03_EvenMost.f (k + 1) a0 a1 a2) := by
  intro a0 a1 a2 k
  obtain ⟨ih0, ih1, ih2, ih3⟩ := sackbutlaw03_EvenMost.mono_l k
  unfold sackbutlaw03_EvenMost.f
  repeat' first
      | (with_reducible exact ih0 _ _ _ _ _ _ _ _)
      | (with_reducible exact ih1 _ _ _ _ _)
      | (with_reducible exact ih2 _ _ _ _ _ _ _ _)
      | (with_reducible exact ih3 _ _ _ _ _)
      | (with_reducible exact even_Even.mono _ _ _)
      | (with_reducible exact even_List.mono _ _ _)
      | (with_reducible exact even_Most.mono _ _ _)
      | (with_reducible exact even_Sum.mono _ _ _)
      | (with_reducible exact sackbutlaw03_awake.mono _)
      | (with_reducible exact sackbutref03_Tones.mono _ _ _)
      | (with_reducible exact slices_Equal_int_int.mono _ _ _)
      | (with_reducible exact LeO.refl _)
      | (with_reducible exact LeO.none _)
      | (with_reducible refine LeO.ite ?_ ?_)
      | (with_reducible refine LeO.bind ?_ (fun _ => ?_))
      | exact ih0 _ _ _ _ _ _ _ _
      | exact ih1 _ _ _ _ _
      | exact ih2 _ _ _ _ _ _ _ _
      | exact ih3 _ _ _ _ _
      | exact even_Even.mono _ _ _
      | exact even_List.mono _ _ _
      | exact even_Most.mono _ _ _
      | exact even_Sum.mono _ _ _
      | exact sackbutlaw03_awake.mono _
      | exact sackbutref03_Tones.mono _ _ _
      | exact slices_Equal_int_int.mono _ _ _
      | exact LeO.none _
      | refine LeO.ite ?_ ?_
      | refine LeO.bind ?_ (fun _ => ?_)
set_option maxHeartbeats 8000000 in
set_option maxRecDepth 100000 in
theorem sackbutlaw03_EvenMost.calls (k : Nat) (a0 : Int) (a1 : Int) (a2 : Int) (r : Bool) (w : World) (h : sackbutlaw03_EvenMost.f k a0 a1 a2 = some r) :
    Calls Try.prog 12 #[.int .i64 a0, .int .i64 a1, .int .i64 a2] w fun e w' => e = .returned (.bool r) ∧ Below w.heap.size w w' := by
  have HB := Aside0.mk (Below.refl w.heap.size w)
  have H : ((even_Most.f k a0 a1).bind fun bt433 => ((even_List.f k a0 a1).bind fun bt437 => (if bt433.2 = 0 then ((sackbutref03_Part.f a0 a1).bind fun t441 => (sackbutlaw03_EvenMost.j0 k a0 a1 a2 bt433.1 bt433.2 bt437.1 bt437.2 (!t441))) else (sackbutlaw03_EvenMost.j0 k a0 a1 a2 bt433.1 bt433.2 bt437.1 bt437.2 true)))) = some r := h
  clear h
  replace H := Option.bind_eq_some_iff.mp H
  obtain ⟨⟨t433, t434⟩, A40, H⟩ := H
  replace H : ((even_List.f k a0 a1).bind fun bt437 => (if t434 = 0 then ((sackbutref03_Part.f a0 a1).bind fun t441 => (sackbutlaw03_EvenMost.j0 k a0 a1 a2 t433 t434 bt437.1 bt437.2 (!t441))) else (sackbutlaw03_EvenMost.j0 k a0 a1 a2 t433 t434 bt437.1 bt437.2 true))) = some r := H
  have A4 := Aside0.mk A40
  clear A40
  replace H := Option.bind_eq_some_iff.mp H
  obtain ⟨⟨t437, t438⟩, A50, H⟩ := H
  replace H : (if t434 = 0 then ((sackbutref03_Part.f a0 a1).bind fun t441 => (sackbutlaw03_EvenMost.j0 k a0 a1 a2 t433 t434 t437 t438 (!t441))) else (sackbutlaw03_EvenMost.j0 k a0 a1 a2 t433 t434 t437 t438 true)) = some r := H
  have A5 := Aside0.mk A50
  clear A50
  have HC6 := Aside0.mk H
  clear H
  go_enter Try.func12, Try.ntmps12
  go_upto_region 3 with (first | ((with_reducible refine gate_callee (f := 37) rfl ?_); refine goesL_ (some 18) rfl rfl Try.func37 (by kernel_rfl) rfl #[.int .i64 a0, .int .i64 a1] rfl (by (try simp only [List.map_toArray, List.map_cons, List.map_nil]); first | done | rfl | (simp only [List.length_drop, List.length_take]; rfl)) ?_; (with_reducible refine (even_Most.calls k a0 a1 t433 t434 _ A4.out).mono ?_); rintro e w7 ⟨v435, rfl, ho0, hb⟩; refine ⟨_, rfl, ?_⟩; have n0_ := Aside0.mk (Kd.R_lower ho0 (below_size (by repeat (first | (with_reducible first | exact HB.out | apply below_alloc | apply pw_below_drewN | apply below_drew1) | exact HB.out)))); have n1_ := Aside0.mk (below_step (by repeat (first | (with_reducible first | exact HB.out | apply below_alloc | apply pw_below_drewN | apply below_drew1) | exact HB.out)) hb); clear HB; have HO436 := n0_; have HB := n1_; clear n0_ n1_; (try clear hb); (try clear hb2); (try clear hk); (try clear hi); (try clear ho0)) | ((with_reducible refine gate_callee (f := 38) rfl ?_); refine goesL_ (some 24) rfl rfl Try.func38 (by kernel_rfl) rfl #[.int .i64 a0, .int .i64 a1] rfl (by (try simp only [List.map_toArray, List.map_cons, List.map_nil]); first | done | rfl | (simp only [List.length_drop, List.length_take]; rfl)) ?_; (with_reducible refine (even_List.calls k a0 a1 t437 t438 _ A5.out).mono ?_); rintro e w8 ⟨v439, rfl, ho0, hb⟩; refine ⟨_, rfl, ?_⟩; have n0_ := Aside0.mk (Kd.R_elder' (by (with_reducible repeat (first | apply Kd.R_alloc | apply Kd.R_drewN | apply Kd.R_drew)); exact HO436.out) (Kd.R_base ho0) hb); have n1_ := Aside0.mk (Kd.R_lower (Kd.R_new' ho0 (Kd.R_lt (by (with_reducible repeat (first | apply Kd.R_alloc | apply Kd.R_drewN | apply Kd.R_drew)); exact HO436.out))) (below_size (by repeat (first | (with_reducible first | exact HB.out | apply below_alloc | apply pw_below_drewN | apply below_drew1) | exact HB.out)))); have n2_ := Aside0.mk (below_step (by repeat (first | (with_reducible first | exact HB.out | apply below_alloc | apply pw_below_drewN | apply below_drew1) | exact HB.out)) hb); clear HO436; clear HB; have HO436 := n0_; have HO440 := n1_; have HB := n2_; clear n0_ n1_ n2_; (try clear hb); (try clear hb2); (try clear hk); (try clear hi); (try clear ho0)))
  (try simp only [Act.put, List.setIfInBounds_toArray, List.set_cons_zero, List.set_cons_succ])
  go_cut [34] (fun v34 wc => ∃ (kq : Nat) (x34_5 : Bool), v34 = .bool x34_5 ∧ Aside0 (sackbutlaw03_EvenMost.j0 kq a0 a1 a2 t433 t434 t437 t438 x34_5 = some r) ∧ Aside0 (kq ≤ k) ∧ Aside0 (Kd.R (Kd.int .i64) 3 wc w.heap.size (fun k_ => some k_ ≠ (v439 : Value).ownBlock) v435 t433) ∧ Aside0 (Kd.R (Kd.int .i64) 3 wc w.heap.size (fun k_ => some k_ ≠ (v435 : Value).ownBlock) v439 t437) ∧ Aside0 (Below w.heap.size w wc))
  case first =>
    have H := HC6.out
    clear HC6
    by_cases c9 : t434 = 0
    · rw [if_pos c9] at H
      have c9b0 : (t434 == 0) = true := beq_iff_eq.mpr c9
      have c9b1 : (t434 != 0) = false := bne_eq_false_iff_eq.mpr c9
      clear c9
      (first | rw [c9b0] | (simp only [i64_w, i32_w]; rw [c9b0]) | skip)
      replace H := Option.bind_eq_some_iff.mp H
      obtain ⟨t441, A100, H⟩ := H
      replace H : (sackbutlaw03_EvenMost.j0 k a0 a1 a2 t433 t434 t437 t438 (!t441)) = some r := H
      have A10 := Aside0.mk A100
      clear A100
      have H' := Aside0.mk H
      clear H
      go_wp2_with (first | (go_at_call 19; (with_reducible refine (sackbutref03_Part.calls a0 a1 t441 _ A10.out).mono ?_); rintro e w' ⟨rfl, ⟨nd, rfl⟩⟩))
      go_meet
      case rel => exact ⟨_, (!t441), (by first | rfl | (simp; done) | (simp [*]; done)), H', ⟨by first | omega | exact Nat.le_refl _⟩, ⟨by (with_reducible repeat (first | apply Kd.R_alloc | apply Kd.R_drewN | apply Kd.R_drew)); exact Kd.R_mono HO436.out (fun _ hk => hk.2)⟩, ⟨by (with_reducible repeat (first | apply Kd.R_alloc | apply Kd.R_drewN | apply Kd.R_drew)); exact Kd.R_mono HO440.out (fun _ hk => hk.2)⟩, ⟨by repeat (first | (with_reducible first | exact HB.out | apply below_alloc | apply pw_below_drewN | apply below_drew1) | exact HB.out)⟩⟩
    · rw [if_neg c9] at H
      have c9b0 : (t434 == 0) = false := beq_eq_false_iff_ne.mpr c9
      have c9b1 : (t434 != 0) = true := bne_iff_ne.mpr c9
      (first | rw [c9b0] | (simp only [i64_w, i32_w]; rw [c9b0]) | skip)
      have H' := Aside0.mk H
      clear H
      go_wp2
      go_meet
      case rel => exact ⟨_, (true), (by first | rfl | (simp; done) | (simp [*]; done)), H', ⟨by first | omega | exact Nat.le_refl _⟩, ⟨by (with_reducible repeat (first | apply Kd.R_alloc | apply Kd.R_drewN | apply Kd.R_drew)); exact Kd.R_mono HO436.out (fun _ hk => hk.2)⟩, ⟨by (with_reducible repeat (first | apply Kd.R_alloc | apply Kd.R_drewN | apply Kd.R_drew)); exact Kd.R_mono HO440.out (fun _ hk => hk.2)⟩, ⟨by repeat (first | (with_reducible first | exact HB.out | apply below_alloc | apply pw_below_drewN | apply below_drew1) | exact HB.out)⟩⟩
  case rest =>
    clear HC6
    try clear c1
    try clear p2
    try clear c3
    try clear c9
    try clear c9b0
    try clear c9b1
    obtain ⟨kq, x34_5, rfl, HA, HJ5, HO_7, HO_9, HB⟩ := hcut
    cases kq with
    | zero => exact absurd HA.out (by simp [sackbutlaw03_EvenMost.j0])
    | succ kj5 =>
      have H := HA.out
      clear HA
      simp only [sackbutlaw03_EvenMost.j0] at H
      by_cases c11 : x34_5 = true
      · subst c11
        have H1 : (if t434 = 2 then (if t438 = t434 then ((sackbutlaw03_awake.f kj5).bind fun t442 => (some t442)) else (some false)) else (some false)) = some r := by rw [if_pos rfl] at H; exact H
        clear H
        have H := H1
        clear H1
        by_cases c12 : t434 = 2
        · rw [if_pos c12] at H
          have c12b0 : (t434 == 2) = true := beq_iff_eq.mpr c12
          have c12b1 : (t434 != 2) = false := bne_eq_false_iff_eq.mpr c12
          clear c12
          by_cases c13 : t438 = t434
          · rw [if_pos c13] at H
            have c13b0 : (t438 == t434) = true := beq_iff_eq.mpr c13
            have c13b1 : (t438 != t434) = false := bne_eq_false_iff_eq.mpr c13
            clear c13
            replace H := Option.bind_eq_some_iff.mp H
            obtain ⟨t442, A140, H⟩ := H
            replace H : (some t442) = some r := H
            have A14 := Aside0.mk A140
            clear A140
            obtain rfl := Option.some.inj H
            go_wp2_with (first | (go_at_call 16; (with_reducible refine (sackbutlaw03_awake.calls kj5  t442 _ A14.out).mono ?_); rintro e w' ⟨rfl, ⟨nd, rfl⟩⟩))
            go_ret
            exact ⟨by first | rfl | (simp [errW_none, errW_some] <;> rfl) | (simp [*, errW_none, errW_some] <;> rfl), by repeat (first | (with_reducible first | exact HB.out | apply below_alloc | apply pw_below_drewN | apply below_drew1) | exact HB.out)⟩
          · rw [if_neg c13] at H
            have c13b0 : (t438 == t434) = false := beq_eq_false_iff_ne.mpr c13
            have c13b1 : (t438 != t434) = true := bne_iff_ne.mpr c13
            obtain rfl := Option.some.inj H
            go_wp2
            go_ret
            exact ⟨by first | rfl | (simp [errW_none, errW_some] <;> rfl) | (simp [*, errW_none, errW_some] <;> rfl), by repeat (first | (with_reducible first | exact HB.out | apply below_alloc | apply pw_below_drewN | apply below_drew1) | exact HB.out)⟩
        · rw [if_neg c12] at H
          have c12b0 : (t434 == 2) = false := beq_eq_false_iff_ne.mpr c12
          have c12b1 : (t434 != 2) = true := bne_iff_ne.mpr c12
          obtain rfl := Option.some.inj H
          go_wp2
          go_ret
          exact ⟨by first | rfl | (simp [errW_none, errW_some] <;> rfl) | (simp [*, errW_none, errW_some] <;> rfl), by repeat (first | (with_reducible first | exact HB.out | apply below_alloc | apply pw_below_drewN | apply below_drew1) | exact HB.out)⟩
      · replace c11 := Bool.eq_false_iff.mpr c11
        subst c11
        have H1 : (if t438 = 0 then (if (t433.length : Int) = 0 then (sackbutlaw03_EvenMost.j1 kj5 a0 a1 a2 t433 true) else ((slices_Equal_int_int.f kj5 t433 t437).bind fun t443 => (sackbutlaw03_EvenMost.j1 kj5 a0 a1 a2 t433 (!t443)))) else (sackbutlaw03_EvenMost.j1 kj5 a0 a1 a2 t433 true)) = some r := by rw [if_neg (show ¬ (false = true) by decide)] at H; exact H
        clear H
        have H := H1
        clear H1
        have HC15 := Aside0.mk H
        clear H
        go_upto_region 5 with (fail)
        go_cut [57] (fun v57 wc => ∃ (kq : Nat) (x57_14 : Bool), v57 = .bool x57_14 ∧ Aside0 (sackbutlaw03_EvenMost.j1 kq a0 a1 a2 t433 x57_14 = some r) ∧ Aside0 (kq ≤ kj5) ∧ Aside0 (Kd.R (Kd.int .i64) 3 wc w.heap.size (fun _ => True) v435 t433) ∧ Aside0 (Below w.heap.size w wc))
        case first =>
          have H := HC15.out
          clear HC15
          by_cases c16 : t438 = 0
          · rw [if_pos c16] at H
            have c16b0 : (t438 == 0) = true := beq_iff_eq.mpr c16
            have c16b1 : (t438 != 0) = false := bne_eq_false_iff_eq.mpr c16
            clear c16
            (first | rw [c16b0] | (simp only [i64_w, i32_w]; rw [c16b0]) | skip)
            by_cases c17 : (t433.length : Int) = 0
            · rw [if_pos c17] at H
              have c17b0 : ((t433.length : Int) == 0) = true := beq_iff_eq.mpr c17
              have c17b1 : ((t433.length : Int) != 0) = false := bne_eq_false_iff_eq.mpr c17
              clear c17
              have H' := Aside0.mk H
              clear H
              obtain ⟨Ao18, co18, eo18⟩ := Kd.R_slice HO_7.out
              subst eo18
              go_wp2
              go_meet
              case rel => exact ⟨_, (true), (by first | rfl | (simp; done) | (simp [*]; done)), H', ⟨by have := HJ5.out; first | omega | exact Nat.le_refl _⟩, ⟨by (with_reducible repeat (first | apply Kd.R_alloc | apply Kd.R_drewN | apply Kd.R_drew)); exact Kd.R_mono HO_7.out (fun _ hk => trivial)⟩, ⟨by repeat (first | (with_reducible first | exact HB.out | apply below_alloc | apply pw_below_drewN | apply below_drew1) | exact HB.out)⟩⟩
            · rw [if_neg c17] at H
              have c17b0 : ((t433.length : Int) == 0) = false := beq_eq_false_iff_ne.mpr c17
              have c17b1 : ((t433.length : Int) != 0) = true := bne_iff_ne.mpr c17
              have c17b2 : ¬ (t433 = []) := fun h_ => c17 (by rw [h_]; rfl)
              replace H := Option.bind_eq_some_iff.mp H
              obtain ⟨t443, A190, H⟩ := H
              replace H : (sackbutlaw03_EvenMost.j1 kj5 a0 a1 a2 t433 (!t443)) = some r := H
              have A19 := Aside0.mk A190
              clear A190
              have H' := Aside0.mk H
              clear H
              obtain ⟨Ao20, co20, eo20⟩ := Kd.R_slice HO_7.out
              subst eo20
              obtain ⟨Ao21, co21, eo21⟩ := Kd.R_slice HO_9.out
              subst eo21
              go_wp2_with (first | (go_at_call 24; (with_reducible refine (slices_Equal_int_int.calls kj5 _ _ t433 _ _ t437 t443 _ ?side1 ?side2 ?side3 ?side4 A19.out).mono ?_); (case side1 => repeat (first | exact (Kd.R_reads' HO_7.out).2.2 | (with_reducible refine Kd.C_alloc ?_ _) | (with_reducible refine Kd.C_drewN ?_ _) | (with_reducible refine Kd.C_drew ?_))); (case side2 => exact (Kd.R_reads' HO_7.out).2.1); (case side3 => repeat (first | exact (Kd.R_reads' HO_9.out).2.2 | (with_reducible refine Kd.C_alloc ?_ _) | (with_reducible refine Kd.C_drewN ?_ _) | (with_reducible refine Kd.C_drew ?_))); (case side4 => exact (Kd.R_reads' HO_9.out).2.1); rintro e w' ⟨rfl, ⟨nd, rfl⟩⟩))
              go_meet
              case rel => exact ⟨_, (!t443), (by first | rfl | (simp; done) | (simp [*]; done)), H', ⟨by have := HJ5.out; first | omega | exact Nat.le_refl _⟩, ⟨by (with_reducible repeat (first | apply Kd.R_alloc | apply Kd.R_drewN | apply Kd.R_drew)); exact Kd.R_mono HO_7.out (fun _ hk => trivial)⟩, ⟨by repeat (first | (with_reducible first | exact HB.out | apply below_alloc | apply pw_below_drewN | apply below_drew1) | exact HB.out)⟩⟩
          · rw [if_neg c16] at H
            have c16b0 : (t438 == 0) = false := beq_eq_false_iff_ne.mpr c16
            have c16b1 : (t438 != 0) = true := bne_iff_ne.mpr c16
            (first | rw [c16b0] | (simp only [i64_w, i32_w]; rw [c16b0]) | skip)
            have H' := Aside0.mk H
            clear H
            go_wp2
            go_meet
            case rel => exact ⟨_, (true), (by first | rfl | (simp; done) | (simp [*]; done)), H', ⟨by have := HJ5.out; first | omega | exact Nat.le_refl _⟩, ⟨by (with_reducible repeat (first | apply Kd.R_alloc | apply Kd.R_drewN | apply Kd.R_drew)); exact Kd.R_mono HO_7.out (fun _ hk => trivial)⟩, ⟨by repeat (first | (with_reducible first | exact HB.out | apply below_alloc | apply pw_below_drewN | apply below_drew1) | exact HB.out)⟩⟩
        case rest =>
          clear HC15
          try clear c1
          try clear p2
          try clear c3
          try clear c9
          try clear c9b0
          try clear c9b1
          try clear c11
          try clear c12
          try clear c12b0
          try clear c12b1
          try clear c13
          try clear c13b0
          try clear c13b1
          try clear c16
          try clear c16b0
          try clear c16b1
          try clear c17
          try clear c17b0
          try clear c17b1
          try clear c17b2
          try clear p2
          obtain ⟨kq, x57_14, rfl, HA, HJ14, HO_7, HB⟩ := hcut
          cases kq with
          | zero => exact absurd HA.out (by simp [sackbutlaw03_EvenMost.j1])
          | succ kj14 =>
            have H := HA.out
            clear HA
            simp only [sackbutlaw03_EvenMost.j1] at H
            by_cases c22 : x57_14 = true
            · subst c22
              have H1 : (some false) = some r := by rw [if_pos rfl] at H; exact H
              clear H
              have H := H1
              clear H1
              obtain rfl := Option.some.inj H
              go_wp2
              go_ret
              exact ⟨by first | rfl | (simp [errW_none, errW_some] <;> rfl) | (simp [*, errW_none, errW_some] <;> rfl), by repeat (first | (with_reducible first | exact HB.out | apply below_alloc | apply pw_below_drewN | apply below_drew1) | exact HB.out)⟩
            · replace c22 := Bool.eq_false_iff.mpr c22
              subst c22
              have H1 : (if 0 < (t433.length : Int) then ((even_Sum.f kj14 a0 (rd t433 0)).bind fun bt445 => ((even_Sum.f kj14 a0 a2).bind fun bt447 => ((even_Even.f kj14 a0 a2).bind fun bt449 => (if bt445.2 = 0 then (sackbutlaw03_EvenMost.j2 kj14 a0 a1 a2 bt447.2 bt445.1 bt447.1 bt449.1 (bt447.2 != bt449.2)) else (sackbutlaw03_EvenMost.j2 kj14 a0 a1 a2 bt447.2 bt445.1 bt447.1 bt449.1 true))))) else (none)) = some r := by rw [if_neg (show ¬ (false = true) by decide)] at H; exact H
              clear H
              have H := H1
              clear H1
              by_cases c23 : 0 < (t433.length : Int)
              · rw [if_pos c23] at H
                have c23b0 : decide (0 < (t433.length : Int)) = true := decide_eq_true c23
                have c23b1 : decide (0 < t433.length) = true := decide_eq_true (by omega)
                clear c23
                replace H := Option.bind_eq_some_iff.mp H
                obtain ⟨⟨t445, t446⟩, A240, H⟩ := H
                replace H : ((even_Sum.f kj14 a0 a2).bind fun bt447 => ((even_Even.f kj14 a0 a2).bind fun bt449 => (if t446 = 0 then (sackbutlaw03_EvenMost.j2 kj14 a0 a1 a2 bt447.2 t445 bt447.1 bt449.1 (bt447.2 != bt449.2)) else (sackbutlaw03_EvenMost.j2 kj14 a0 a1 a2 bt447.2 t445 bt447.1 bt449.1 true)))) = some r := H
                have A24 := Aside0.mk A240
                clear A240
                replace H := Option.bind_eq_some_iff.mp H
                obtain ⟨⟨t447, t448⟩, A250, H⟩ := H
                replace H : ((even_Even.f kj14 a0 a2).bind fun bt449 => (if t446 = 0 then (sackbutlaw03_EvenMost.j2 kj14 a0 a1 a2 t448 t445 t447 bt449.1 (t448 != bt449.2)) else (sackbutlaw03_EvenMost.j2 kj14 a0 a1 a2 t448 t445 t447 bt449.1 true))) = some r := H
                have A25 := Aside0.mk A250
                clear A250
                replace H := Option.bind_eq_some_iff.mp H
                obtain ⟨⟨t449, t450⟩, A260, H⟩ := H
                replace H : (if t446 = 0 then (sackbutlaw03_EvenMost.j2 kj14 a0 a1 a2 t448 t445 t447 t449 (t448 != t450)) else (sackbutlaw03_EvenMost.j2 kj14 a0 a1 a2 t448 t445 t447 t449 true)) = some r := H
                have A26 := Aside0.mk A260
                clear A260
                have HC27 := Aside0.mk H
                clear H
                obtain ⟨Ao28, co28, eo28⟩ := Kd.R_slice HO_7.out
                subst eo28
                have p444 : 0 ≤ (0 : Int) := (by omega)
                have q444 : 0 < (t433.length : Int) := of_decide_eq_true (by first | (with_reducible assumption) | assumption)
                obtain ⟨ad444, e444, hx444_0⟩ := Kd.at_int (Kd.R_reads' HO_7.out).2.2 0 p444 q444
                cases e444
                have qi444 : (0 < t433.length) = True := eq_true (by omega)
                (try rw [show ((0 : Int)).toNat = 0 from rfl] at hx444_0)
                (try rw [Addr.add_zero'] at hx444_0)
                replace p444 := eq_true p444
                replace q444 := eq_true q444
                go_upto_region 10 with (first | ((with_reducible refine gate_callee (f := 14) rfl ?_); refine goesL_ (some 63) rfl rfl Try.func14 (by kernel_rfl) rfl #[.int .i64 a0, .int .i64 (rd t433 0)] rfl (by (try simp only [List.map_toArray, List.map_cons, List.map_nil]); first | done | rfl | (simp only [List.length_drop, List.length_take]; rfl)) ?_; (with_reducible refine (even_Sum.calls kj14 a0 (rd t433 0) t445 t446 _ A24.out).mono ?_); rintro e w29 ⟨rfl, hb⟩; refine ⟨_, rfl, ?_⟩; have n0_ := Aside0.mk (Kd.R_below (by (with_reducible repeat (first | apply Kd.R_alloc | apply Kd.R_drewN | apply Kd.R_drew)); exact HO_7.out) hb); have n1_ := Aside0.mk (below_step (by repeat (first | (with_reducible first | exact HB.out | apply below_alloc | apply pw_below_drewN | apply below_drew1) | exact HB.out)) hb); clear HO_7; clear HB; have HO_7 := n0_; have HB := n1_; clear n0_ n1_; (try clear hb); (try clear hb2); (try clear hk); (try clear hi)) | ((with_reducible refine gate_callee (f := 14) rfl ?_); refine goesL_ (some 69) rfl rfl Try.func14 (by kernel_rfl) rfl #[.int .i64 a0, .int .i64 a2] rfl (by (try simp only [List.map_toArray, List.map_cons, List.map_nil]); first | done | rfl | (simp only [List.length_drop, List.length_take]; rfl)) ?_; (with_reducible refine (even_Sum.calls kj14 a0 a2 t447 t448 _ A25.out).mono ?_); rintro e w30 ⟨rfl, hb⟩; refine ⟨_, rfl, ?_⟩; have n0_ := Aside0.mk (Kd.R_below (by (with_reducible repeat (first | apply Kd.R_alloc | apply Kd.R_drewN | apply Kd.R_drew)); exact HO_7.out) hb); have n1_ := Aside0.mk (below_step (by repeat (first | (with_reducible first | exact HB.out | apply below_alloc | apply pw_below_drewN | apply below_drew1) | exact HB.out)) hb); clear HO_7; clear HB; have HO_7 := n0_; have HB := n1_; clear n0_ n1_; (try clear hb); (try clear hb2); (try clear hk); (try clear hi)) | ((with_reducible refine gate_callee (f := 27) rfl ?_); refine goesL_ (some 75) rfl rfl Try.func27 (by kernel_rfl) rfl #[.int .i64 a0, .int .i64 a2] rfl (by (try simp only [List.map_toArray, List.map_cons, List.map_nil]); first | done | rfl | (simp only [List.length_drop, List.length_take]; rfl)) ?_; (with_reducible refine (even_Even.calls kj14 a0 a2 t449 t450 _ A26.out).mono ?_); rintro e w31 ⟨rfl, hb⟩; refine ⟨_, rfl, ?_⟩; have n0_ := Aside0.mk (Kd.R_below (by (with_reducible repeat (first | apply Kd.R_alloc | apply Kd.R_drewN | apply Kd.R_drew)); exact HO_7.out) hb); have n1_ := Aside0.mk (below_step (by repeat (first | (with_reducible first | exact HB.out | apply below_alloc | apply pw_below_drewN | apply below_drew1) | exact HB.out)) hb); clear HO_7; clear HB; have HO_7 := n0_; have HB := n1_; clear n0_ n1_; (try clear hb); (try clear hb2); (try clear hk); (try clear hi)))
                (try simp only [Act.put, List.setIfInBounds_toArray, List.set_cons_zero, List.set_cons_succ])
                go_cut [84] (fun v84 wc => ∃ (kq : Nat) (x84_26 : Bool), v84 = .bool x84_26 ∧ Aside0 (sackbutlaw03_EvenMost.j2 kq a0 a1 a2 t448 t445 t447 t449 x84_26 = some r) ∧ Aside0 (kq ≤ kj14) ∧ Aside0 (Below w.heap.size w wc))
                case first =>
                  have H := HC27.out
                  clear HC27
                  by_cases c32 : t446 = 0
                  · rw [if_pos c32] at H
                    have c32b0 : (t446 == 0) = true := beq_iff_eq.mpr c32
                    have c32b1 : (t446 != 0) = false := bne_eq_false_iff_eq.mpr c32
                    clear c32
                    (first | rw [c32b0] | (simp only [i64_w, i32_w]; rw [c32b0]) | skip)
                    have H' := Aside0.mk H
                    clear H
                    go_wp2
                    go_meet
                    case rel => exact ⟨_, ((t448 != t450)), (by first | rfl | (simp; done) | (simp [*]; done)), H', ⟨by have := HJ5.out; have := HJ14.out; first | omega | exact Nat.le_refl _⟩, ⟨by repeat (first | (with_reducible first | exact HB.out | apply below_alloc | apply pw_below_drewN | apply below_drew1) | exact HB.out)⟩⟩
                  · rw [if_neg c32] at H
                    have c32b0 : (t446 == 0) = false := beq_eq_false_iff_ne.mpr c32
                    have c32b1 : (t446 != 0) = true := bne_iff_ne.mpr c32
                    (first | rw [c32b0] | (simp only [i64_w, i32_w]; rw [c32b0]) | skip)
                    have H' := Aside0.mk H
                    clear H
                    go_wp2
                    go_meet
                    case rel => exact ⟨_, (true), (by first | rfl | (simp; done) | (simp [*]; done)), H', ⟨by have := HJ5.out; have := HJ14.out; first | omega | exact Nat.le_refl _⟩, ⟨by repeat (first | (with_reducible first | exact HB.out | apply below_alloc | apply pw_below_drewN | apply below_drew1) | exact HB.out)⟩⟩
                case rest =>
                  clear HC27
                  try clear c1
                  try clear c2
                  try clear p2
                  try clear c3
                  try clear p4
                  try clear q4
                  try clear hx4
                  try clear qi4
                  try clear c9
                  try clear c9b0
                  try clear c9b1
                  try clear c11
                  try clear c12
                  try clear c12b0
                  try clear c12b1
                  try clear c13
                  try clear c13b0
                  try clear c13b1
                  try clear c14
                  try clear c16
                  try clear c16b0
                  try clear c16b1
                  try clear c17
                  try clear c17b0
                  try clear c17b1
                  try clear c17b2
                  try clear c22
                  try clear c23
                  try clear c23b0
                  try clear c23b1
                  try clear c27
                  try clear c32
                  try clear c32b0
                  try clear c32b1
                  try clear hx444_0
                  try clear p2
                  try clear p444
                  try clear q444
                  obtain ⟨kq, x84_26, rfl, HA, HJ26, HB⟩ := hcut
                  cases kq with
                  | zero => exact absurd HA.out (by simp [sackbutlaw03_EvenMost.j2])
                  | succ kj26 =>
                    have H := HA.out
                    clear HA
                    simp only [sackbutlaw03_EvenMost.j2] at H
                    by_cases c33 : x84_26 = true
                    · subst c33
                      have H1 : (some false) = some r := by rw [if_pos rfl] at H; exact H
                      clear H
                      have H := H1
                      clear H1
                      obtain rfl := Option.some.inj H
                      go_wp2
                      go_ret
                      exact ⟨by first | rfl | (simp [errW_none, errW_some] <;> rfl) | (simp [*, errW_none, errW_some] <;> rfl), by repeat (first | (with_reducible first | exact HB.out | apply below_alloc | apply pw_below_drewN | apply below_drew1) | exact HB.out)⟩
                    · replace c33 := Bool.eq_false_iff.mpr c33
                      subst c33
                      have H1 : (if t448 = 0 then ((sackbutref03_Scale.f a0 a2).bind fun t451 => (if t451 = true then ((sackbutref03_Tones.f kj26 a0 a2).bind fun t452 => (sackbutlaw03_EvenMost.j3 kj26 t448 t445 t447 t449 ((t452.length : Int) != a1))) else (sackbutlaw03_EvenMost.j3 kj26 t448 t445 t447 t449 true))) else (sackbutlaw03_EvenMost.j3 kj26 t448 t445 t447 t449 true)) = some r := by rw [if_neg (show ¬ (false = true) by decide)] at H; exact H
                      clear H
                      have H := H1
                      clear H1
                      have HC34 := Aside0.mk H
                      clear H
                      go_upto_region 12 with (fail)
                      go_cut [100] (fun v100 wc => ∃ (kq : Nat) (x100_33 : Bool), v100 = .bool x100_33 ∧ Aside0 (sackbutlaw03_EvenMost.j3 kq t448 t445 t447 t449 x100_33 = some r) ∧ Aside0 (kq ≤ kj26) ∧ Aside0 (Below w.heap.size w wc))
                      case first =>
                        have H := HC34.out
                        clear HC34
                        by_cases c35 : t448 = 0
                        · rw [if_pos c35] at H
                          have c35b0 : (t448 == 0) = true := beq_iff_eq.mpr c35
                          have c35b1 : (t448 != 0) = false := bne_eq_false_iff_eq.mpr c35
                          clear c35
                          (first | rw [c35b0] | (simp only [i64_w, i32_w]; rw [c35b0]) | skip)
                          replace H := Option.bind_eq_some_iff.mp H
                          obtain ⟨t451, A360, H⟩ := H
                          replace H : (if t451 = true then ((sackbutref03_Tones.f kj26 a0 a2).bind fun t452 => (sackbutlaw03_EvenMost.j3 kj26 t448 t445 t447 t449 ((t452.length : Int) != a1))) else (sackbutlaw03_EvenMost.j3 kj26 t448 t445 t447 t449 true)) = some r := H
                          have A36 := Aside0.mk A360
                          clear A360
                          by_cases c37 : t451 = true
                          · subst c37
                            have H1 : ((sackbutref03_Tones.f kj26 a0 a2).bind fun t452 => (sackbutlaw03_EvenMost.j3 kj26 t448 t445 t447 t449 ((t452.length : Int) != a1))) = some r := by rw [if_pos rfl] at H; exact H
                            clear H
                            have H := H1
                            clear H1
                            replace H := Option.bind_eq_some_iff.mp H
                            obtain ⟨t452, A380, H⟩ := H
                            replace H : (sackbutlaw03_EvenMost.j3 kj26 t448 t445 t447 t449 ((t452.length : Int) != a1)) = some r := H
                            have A38 := Aside0.mk A380
                            clear A380
                            have H' := Aside0.mk H
                            clear H
                            go_wp2_with (first | (go_at_call 15; (with_reducible refine (sackbutref03_Scale.calls a0 a2 true _ A36.out).mono ?_); rintro e w' ⟨rfl, ⟨nd, rfl⟩⟩) | (go_at_call 35; (with_reducible refine (sackbutref03_Tones.calls kj26 a0 a2 t452 _ A38.out).mono ?_); rintro e w39 ⟨v453, rfl, ho0, hb⟩; have n0_ := Aside0.mk (Kd.R_lower ho0 (below_size (by repeat (first | (with_reducible first | exact HB.out | apply below_alloc | apply pw_below_drewN | apply below_drew1) | exact HB.out)))); have n1_ := Aside0.mk (below_step (by repeat (first | (with_reducible first | exact HB.out | apply below_alloc | apply pw_below_drewN | apply below_drew1) | exact HB.out)) hb); clear HB; have HO454 := n0_; have HB := n1_; clear n0_ n1_; (try clear hb); (try clear hb2); (try clear hk); (try clear hi); (try clear ho0); obtain ⟨Ao40, co40, eo40⟩ := Kd.R_slice HO454.out; subst eo40))
                            go_meet
                            case rel => exact ⟨_, (((t452.length : Int) != a1)), (by first | rfl | (simp; done) | (simp [*]; done)), H', ⟨by have := HJ5.out; have := HJ14.out; have := HJ26.out; first | omega | exact Nat.le_refl _⟩, ⟨by repeat (first | (with_reducible first | exact HB.out | apply below_alloc | apply pw_below_drewN | apply below_drew1) | exact HB.out)⟩⟩
                          · replace c37 := Bool.eq_false_iff.mpr c37
                            subst c37
                            have H1 : (sackbutlaw03_EvenMost.j3 kj26 t448 t445 t447 t449 true) = some r := by rw [if_neg (show ¬ (false = true) by decide)] at H; exact H
                            clear H
                            have H := H1
                            clear H1
                            have H' := Aside0.mk H
                            clear H
                            go_wp2_with (first | (go_at_call 15; (with_reducible refine (sackbutref03_Scale.calls a0 a2 false _ A36.out).mono ?_); rintro e w' ⟨rfl, ⟨nd, rfl⟩⟩))
                            go_meet
                            case rel => exact ⟨_, (true), (by first | rfl | (simp; done) | (simp [*]; done)), H', ⟨by have := HJ5.out; have := HJ14.out; have := HJ26.out; first | omega | exact Nat.le_refl _⟩, ⟨by repeat (first | (with_reducible first | exact HB.out | apply below_alloc | apply pw_below_drewN | apply below_drew1) | exact HB.out)⟩⟩
                        · rw [if_neg c35] at H
                          have c35b0 : (t448 == 0) = false := beq_eq_false_iff_ne.mpr c35
                          have c35b1 : (t448 != 0) = true := bne_iff_ne.mpr c35
                          (first | rw [c35b0] | (simp only [i64_w, i32_w]; rw [c35b0]) | skip)
                          have H' := Aside0.mk H
                          clear H
                          go_wp2
                          go_meet
                          case rel => exact ⟨_, (true), (by first | rfl | (simp; done) | (simp [*]; done)), H', ⟨by have := HJ5.out; have := HJ14.out; have := HJ26.out; first | omega | exact Nat.le_refl _⟩, ⟨by repeat (first | (with_reducible first | exact HB.out | apply below_alloc | apply pw_below_drewN | apply below_drew1) | exact HB.out)⟩⟩
                      case rest =>
                        clear HC34
                        try clear c1
                        try clear c2
                        try clear p2
                        try clear c3
                        try clear p4
                        try clear q4
                        try clear hx4
                        try clear qi4
                        try clear c9
                        try clear c9b0
                        try clear c9b1
                        try clear c11
                        try clear c12
                        try clear c12b0
                        try clear c12b1
                        try clear c13
                        try clear c13b0
                        try clear c13b1
                        try clear c14
                        try clear c16
                        try clear c16b0
                        try clear c16b1
                        try clear c17
                        try clear c17b0
                        try clear c17b1
                        try clear c17b2
                        try clear c22
                        try clear c23
                        try clear c23b0
                        try clear c23b1
                        try clear c27
                        try clear c32
                        try clear c32b0
                        try clear c32b1
                        try clear c33
                        try clear c35
                        try clear c35b0
                        try clear c35b1
                        try clear c37
                        try clear c38
                        try clear hx444_0
                        try clear p2
                        try clear p4
                        try clear p444
                        try clear q4
                        try clear q444
                        obtain ⟨kq, x100_33, rfl, HA, HJ33, HB⟩ := hcut
                        cases kq with
                        | zero => exact absurd HA.out (by simp [sackbutlaw03_EvenMost.j3])
                        | succ kj33 =>
                          have H := HA.out
                          clear HA
                          simp only [sackbutlaw03_EvenMost.j3] at H
                          by_cases c41 : x100_33 = true
                          · subst c41
                            have H1 : (if t448 = 0 then ((sackbutlaw03_awake.f kj33).bind fun t455 => (some t455)) else (if t448 = 2 then ((sackbutlaw03_awake.f kj33).bind fun t456 => (some t456)) else (some false))) = some r := by rw [if_pos rfl] at H; exact H
                            clear H
                            have H := H1
                            clear H1
                            by_cases c42 : t448 = 0
                            · rw [if_pos c42] at H
                              have c42b0 : (t448 == 0) = true := beq_iff_eq.mpr c42
                              have c42b1 : (t448 != 0) = false := bne_eq_false_iff_eq.mpr c42
                              clear c42
                              replace H := Option.bind_eq_some_iff.mp H
                              obtain ⟨t455, A430, H⟩ := H
                              replace H : (some t455) = some r := H
                              have A43 := Aside0.mk A430
                              clear A430
                              obtain rfl := Option.some.inj H
                              go_wp2_with (first | (go_at_call 16; (with_reducible refine (sackbutlaw03_awake.calls kj33  t455 _ A43.out).mono ?_); rintro e w' ⟨rfl, ⟨nd, rfl⟩⟩))
                              go_ret
                              exact ⟨by first | rfl | (simp [errW_none, errW_some] <;> rfl) | (simp [*, errW_none, errW_some] <;> rfl), by repeat (first | (with_reducible first | exact HB.out | apply below_alloc | apply pw_below_drewN | apply below_drew1) | exact HB.out)⟩
                            · rw [if_neg c42] at H
                              have c42b0 : (t448 == 0) = false := beq_eq_false_iff_ne.mpr c42
                              have c42b1 : (t448 != 0) = true := bne_iff_ne.mpr c42
                              by_cases c44 : t448 = 2
                              · rw [if_pos c44] at H
                                have c44b0 : (t448 == 2) = true := beq_iff_eq.mpr c44
                                have c44b1 : (t448 != 2) = false := bne_eq_false_iff_eq.mpr c44
                                clear c44
                                replace H := Option.bind_eq_some_iff.mp H
                                obtain ⟨t456, A450, H⟩ := H
                                replace H : (some t456) = some r := H
                                have A45 := Aside0.mk A450
                                clear A450
                                obtain rfl := Option.some.inj H
                                go_wp2_with (first | (go_at_call 16; (with_reducible refine (sackbutlaw03_awake.calls kj33  t456 _ A45.out).mono ?_); rintro e w' ⟨rfl, ⟨nd, rfl⟩⟩))
                                go_ret
                                exact ⟨by first | rfl | (simp [errW_none, errW_some] <;> rfl) | (simp [*, errW_none, errW_some] <;> rfl), by repeat (first | (with_reducible first | exact HB.out | apply below_alloc | apply pw_below_drewN | apply below_drew1) | exact HB.out)⟩
                              · rw [if_neg c44] at H
                                have c44b0 : (t448 == 2) = false := beq_eq_false_iff_ne.mpr c44
                                have c44b1 : (t448 != 2) = true := bne_iff_ne.mpr c44
                                obtain rfl := Option.some.inj H
                                go_wp2
                                go_ret
                                exact ⟨by first | rfl | (simp [errW_none, errW_some] <;> rfl) | (simp [*, errW_none, errW_some] <;> rfl), by repeat (first | (with_reducible first | exact HB.out | apply below_alloc | apply pw_below_drewN | apply below_drew1) | exact HB.out)⟩
                          · replace c41 := Bool.eq_false_iff.mpr c41
                            subst c41
                            have H1 : (if t447 ≤ t445 then (if ((t447 == t445) == t449) = true then ((sackbutlaw03_awake.f kj33).bind fun t457 => (some t457)) else (some false)) else (some false)) = some r := by rw [if_neg (show ¬ (false = true) by decide)] at H; exact H
                            clear H
                            have H := H1
                            clear H1
                            by_cases c46 : t447 ≤ t445
                            · rw [if_pos c46] at H
                              have c46b0 : decide (t447 ≤ t445) = true := decide_eq_true c46
                              clear c46
                              by_cases c47 : ((t447 == t445) == t449) = true
                              · rw [if_pos c47] at H
                                have c47b0 : ((t447 == t445) == t449) = true := c47
                                (try (have c47b1 : decide ((t447 == t445) = t449) = true := by simpa using c47))
                                (try (have c47b2 : ((t447 == t445) == t449) = true := by simpa using c47))
                                clear c47
                                replace H := Option.bind_eq_some_iff.mp H
                                obtain ⟨t457, A480, H⟩ := H
                                replace H : (some t457) = some r := H
                                have A48 := Aside0.mk A480
                                clear A480
                                obtain rfl := Option.some.inj H
                                go_wp2_with (first | (go_at_call 16; (with_reducible refine (sackbutlaw03_awake.calls kj33  t457 _ A48.out).mono ?_); rintro e w' ⟨rfl, ⟨nd, rfl⟩⟩))
                                go_ret
                                exact ⟨by first | rfl | (simp [errW_none, errW_some] <;> rfl) | (simp [*, errW_none, errW_some] <;> rfl), by repeat (first | (with_reducible first | exact HB.out | apply below_alloc | apply pw_below_drewN | apply below_drew1) | exact HB.out)⟩
                              · rw [if_neg c47] at H
                                have c47b0 : ((t447 == t445) == t449) = false := by simpa using c47
                                (try (have c47b1 : decide ((t447 == t445) = t449) = false := by simpa using c47))
                                (try (have c47b2 : ((t447 == t445) == t449) = false := by simpa using c47))
                                (try (have c47b3 : ¬ ((t447 == t445) = t449) := by simpa using c47))
                                clear c47
                                obtain rfl := Option.some.inj H
                                go_wp2
                                go_ret
                                exact ⟨by first | rfl | (simp [errW_none, errW_some] <;> rfl) | (simp [*, errW_none, errW_some] <;> rfl), by repeat (first | (with_reducible first | exact HB.out | apply below_alloc | apply pw_below_drewN | apply below_drew1) | exact HB.out)⟩
                            · rw [if_neg c46] at H
                              have c46b0 : decide (t447 ≤ t445) = false := decide_eq_false c46
                              clear c46
                              obtain rfl := Option.some.inj H
                              go_wp2
                              go_ret
                              exact ⟨by first | rfl | (simp [errW_none, errW_some] <;> rfl) | (simp [*, errW_none, errW_some] <;> rfl), by repeat (first | (with_reducible first | exact HB.out | apply below_alloc | apply pw_below_drewN | apply below_drew1) | exact HB.out)⟩
              · rw [if_neg c23] at H
                exact absurd H (by simp)

/-- THE ONE PURE STATEMENT of sackbutlaw03_EvenMost: yours. -/
def sackbutlaw03_EvenMost.Pure : Prop := ∀ (a0 : Int) (a1 : Int) (a2 : Int), (Lit.int .i64 a0).wf = true → (Lit.int .i64 a1).wf = true → (Lit.int .i64 a2).wf = true → ∃ k, sackbutlaw03_EvenMost.f k a0 a1 a2 = some true
theorem sackbutlaw03_EvenMost.walk (P : sackbutlaw03_EvenMost.Pure) (a0 : Int) (a1 : Int) (a2 : Int) (w : World) (w0 : (Lit.int .i64 a0).wf = true) (w1 : (Lit.int .i64 a1).wf = true) (w2 : (Lit.int .i64 a2).wf = true) :
    Calls Try.prog 12 #[.int .i64 a0, .int .i64 a1, .int .i64 a2] w fun e w' => e = .returned (.bool true) ∧ Below w.heap.size w w' := by
  obtain ⟨k, h⟩ := P a0 a1 a2 w0 w1 w2
  refine (sackbutlaw03_EvenMost.calls k a0 a1 a2 true w h).mono ?_
  rintro e w' ⟨rfl, hd⟩
  exact ⟨rfl, hd⟩

end Go.Proofs.Ythbcdmbicfmeaaa.P
