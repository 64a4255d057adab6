-- Written by this session's program (wip/tools/myprint.py) out of the translation.
import Derived.Test.YthbcdmbicfmeaaaP0
import Derived.Test.YthbcdmbicfmeaaaP1
import Derived.Test.YthbcdmbicfmeaaaP2
import Derived.Test.YthbcdmbicfmeaaaP6
import Derived.LoopIn
import Derived.LoopNIn
import Derived.OwnWalkIn
import Derived.RangeFuncBound
import Derived.RangeFuncCalls
import Derived.RangeFuncLeaves
import Derived.RangeFuncNested
import Derived.Shelf.Abstract
import Derived.Shelf.AbstractIn
import Derived.Shelf.RegionOpen
import Derived.Sort.BigQuietIn
import Derived.Sort.QuietIn
import Derived.TacticsInMore
import Derived.Test.YthbcdmbicfmeaaaQuiet
import Derived.Test.YthbcdmbicfmeaaaRange
import Derived.WalkKit
namespace Go.Proofs.Ythbcdmbicfmeaaa.P
open Go.RowKit Go.Proofs.YthbcdmbicfmeaaaW.PrintWords Go.Proofs.YthbcdmbicfmeaaaW.PrintLast Go.Proofs.YthbcdmbicfmeaaaW.PrintMore
attribute [local go_sem] max2_int min2_int max_two min_two max_three min_three max_four min_four   -- for this text's walks alone
set_option linter.unusedVariables false
set_option linter.unusedSimpArgs false

/-! ### sackbutlaw03_EvenOthers: function 6 -/
def sackbutlaw03_EvenOthers.j0 : Nat → Int → Int → Bool → Int → Bool → Option (Bool)
  | 0, _, _, _, _, _ => none
  | k + 1, x0, x1, x5, x6, x22 => if x22 = true then (if x6 = 2 then ((sackbutlaw03_awake.f k).bind fun t238 => (some t238)) else (some false)) else (if 0 ≤ x0 then (if x1 = (wrap64 ((shl .i64 1 x0) - 1)) then (if x5 = true then ((sackbutlaw03_awake.f k).bind fun t239 => (some t239)) else (some false)) else ((even_Even.f k x0 (wrap64 ((wrap64 ((shl .i64 1 x0) - 1)) - x1))).bind fun bt240 => (if bt240.2 = 0 then (if (x5 == bt240.1) = true then ((sackbutlaw03_awake.f k).bind fun t242 => (some t242)) else (some false)) else (some false)))) else (none))
def sackbutlaw03_EvenOthers.f (k : Nat) (a0 : Int) (a1 : Int) : Option (Bool) := (even_Even.f k a0 a1).bind fun bt235 => (if bt235.2 = 0 then ((sackbutref03_Scale.f a0 a1).bind fun t237 => (sackbutlaw03_EvenOthers.j0 k a0 a1 bt235.1 bt235.2 (!t237))) else (sackbutlaw03_EvenOthers.j0 k a0 a1 bt235.1 bt235.2 true))
theorem sackbutlaw03_EvenOthers.mono_l : ∀ k, (∀ y0 y1 y2 y3 y4, LeO (sackbutlaw03_EvenOthers.j0 k y0 y1 y2 y3 y4) (sackbutlaw03_EvenOthers.j0 (k + 1) y0 y1 y2 y3 y4))
  | 0 => fun _ _ _ _ _ r h => by simp [sackbutlaw03_EvenOthers.j0] at h
  | k + 1 => by
    have ih0 := sackbutlaw03_EvenOthers.mono_l k
    · intro y0 y1 y2 y3 y4
      unfold sackbutlaw03_EvenOthers.j0
      repeat' first
      | (with_reducible exact ih0 _ _ _ _ _)
      | (with_reducible exact even_Even.mono _ _ _)
      | (with_reducible exact sackbutlaw03_awake.mono _)
      | (with_reducible exact LeO.refl _)
      | (with_reducible exact LeO.none _)
      | (with_reducible refine LeO.ite ?_ ?_)
      | (with_reducible refine LeO.bind ?_ (fun _ => ?_))
      | exact ih0 _ _ _ _ _
      | exact even_Even.mono _ _ _
      | exact sackbutlaw03_awake.mono _
      | exact LeO.none _
      | refine LeO.ite ?_ ?_
      | refine LeO.bind ?_ (fun _ => ?_)
theorem sackbutlaw03_EvenOthers.mono : ∀ a0 a1 k, LeO (sackbutlaw03_EvenOthers.f k a0 a1) (sackbutlaw03_EvenOthers.f (k + 1) a0 a1) := by
  intro a0 a1 k
  have ih0 := sackbutlaw03_EvenOthers.mono_l k
  unfold sackbutlaw03_EvenOthers.f
  repeat' first
      | (with_reducible exact ih0 _ _ _ _ _)
      | (with_reducible exact even_Even.mono _ _ _)
      | (with_reducible exact sackbutlaw03_awake.mono _)
      | (with_reducible exact LeO.refl _)
      | (with_reducible exact LeO.none _)
      | (with_reducible refine LeO.ite ?_ ?_)
      | (with_reducible refine LeO.bind ?_ (fun _ => ?_))
      | exact ih0 _ _ _ _ _
      | exact even_Even.mono _ _ _
      | exact sackbutlaw03_awake.mono _
      | exact LeO.none _
      | refine LeO.ite ?_ ?_
      | refine LeO.bind ?_ (fun _ => ?_)
set_option maxHeartbeats 8000000 in
set_option maxRecDepth 100000 in
theorem sackbutlaw03_EvenOthers.calls (k : Nat) (a0 : Int) (a1 : Int) (r : Bool) (w : World) (h : sackbutlaw03_EvenOthers.f k a0 a1 = some r) :
    Calls Try.prog 6 #[.int .i64 a0, .int .i64 a1] w fun e w' => e = .returned (.bool r) ∧ Below w.heap.size w w' := by
  have HB := Aside0.mk (Below.refl w.heap.size w)
  have H : ((even_Even.f k a0 a1).bind fun bt235 => (if bt235.2 = 0 then ((sackbutref03_Scale.f a0 a1).bind fun t237 => (sackbutlaw03_EvenOthers.j0 k a0 a1 bt235.1 bt235.2 (!t237))) else (sackbutlaw03_EvenOthers.j0 k a0 a1 bt235.1 bt235.2 true))) = some r := h
  clear h
  replace H := Option.bind_eq_some_iff.mp H
  obtain ⟨⟨t235, t236⟩, A30, H⟩ := H
  replace H : (if t236 = 0 then ((sackbutref03_Scale.f a0 a1).bind fun t237 => (sackbutlaw03_EvenOthers.j0 k a0 a1 t235 t236 (!t237))) else (sackbutlaw03_EvenOthers.j0 k a0 a1 t235 t236 true)) = some r := H
  have A3 := Aside0.mk A30
  clear A30
  have HC4 := Aside0.mk H
  clear H
  go_enter Try.func6, Try.ntmps6
  go_upto_region 2 with (first | ((with_reducible refine gate_callee (f := 27) rfl ?_); refine goesL_ (some 12) rfl rfl Try.func27 (by kernel_rfl) rfl #[.int .i64 a0, .int .i64 a1] rfl (by (try simp only [List.map_toArray, List.map_cons, List.map_nil]); first | done | rfl | (simp only [List.length_drop, List.length_take]; rfl)) ?_; (with_reducible refine (even_Even.calls k a0 a1 t235 t236 _ A3.out).mono ?_); rintro e w5 ⟨rfl, hb⟩; refine ⟨_, rfl, ?_⟩; have n0_ := Aside0.mk (below_step (by repeat (first | (with_reducible first | exact HB.out | apply below_alloc | apply pw_below_drewN | apply below_drew1) | exact HB.out)) hb); clear HB; have HB := n0_; clear n0_; (try clear hb); (try clear hb2); (try clear hk); (try clear hi)))
  (try simp only [Act.put, List.setIfInBounds_toArray, List.set_cons_zero, List.set_cons_succ])
  go_cut [22] (fun v22 wc => ∃ (kq : Nat) (x22_3 : Bool), v22 = .bool x22_3 ∧ Aside0 (sackbutlaw03_EvenOthers.j0 kq a0 a1 t235 t236 x22_3 = some r) ∧ Aside0 (kq ≤ k) ∧ Aside0 (Below w.heap.size w wc))
  case first =>
    have H := HC4.out
    clear HC4
    by_cases c6 : t236 = 0
    · rw [if_pos c6] at H
      have c6b0 : (t236 == 0) = true := beq_iff_eq.mpr c6
      have c6b1 : (t236 != 0) = false := bne_eq_false_iff_eq.mpr c6
      clear c6
      (first | rw [c6b0] | (simp only [i64_w, i32_w]; rw [c6b0]) | skip)
      replace H := Option.bind_eq_some_iff.mp H
      obtain ⟨t237, A70, H⟩ := H
      replace H : (sackbutlaw03_EvenOthers.j0 k a0 a1 t235 t236 (!t237)) = some r := H
      have A7 := Aside0.mk A70
      clear A70
      have H' := Aside0.mk H
      clear H
      go_wp2_with (first | (go_at_call 15; (with_reducible refine (sackbutref03_Scale.calls a0 a1 t237 _ A7.out).mono ?_); rintro e w' ⟨rfl, ⟨nd, rfl⟩⟩))
      go_meet
      case rel => exact ⟨_, (!t237), (by first | rfl | (simp; done) | (simp [*]; done)), H', ⟨by first | omega | exact Nat.le_refl _⟩, ⟨by repeat (first | (with_reducible first | exact HB.out | apply below_alloc | apply pw_below_drewN | apply below_drew1) | exact HB.out)⟩⟩
    · rw [if_neg c6] at H
      have c6b0 : (t236 == 0) = false := beq_eq_false_iff_ne.mpr c6
      have c6b1 : (t236 != 0) = true := bne_iff_ne.mpr c6
      (first | rw [c6b0] | (simp only [i64_w, i32_w]; rw [c6b0]) | skip)
      have H' := Aside0.mk H
      clear H
      go_wp2
      go_meet
      case rel => exact ⟨_, (true), (by first | rfl | (simp; done) | (simp [*]; done)), H', ⟨by first | omega | exact Nat.le_refl _⟩, ⟨by repeat (first | (with_reducible first | exact HB.out | apply below_alloc | apply pw_below_drewN | apply below_drew1) | exact HB.out)⟩⟩
  case rest =>
    clear HC4
    try clear c2
    try clear p2
    try clear c6
    try clear c6b0
    try clear c6b1
    obtain ⟨kq, x22_3, rfl, HA, HJ3, HB⟩ := hcut
    cases kq with
    | zero => exact absurd HA.out (by simp [sackbutlaw03_EvenOthers.j0])
    | succ kj3 =>
      have H := HA.out
      clear HA
      simp only [sackbutlaw03_EvenOthers.j0] at H
      by_cases c8 : x22_3 = true
      · subst c8
        have H1 : (if t236 = 2 then ((sackbutlaw03_awake.f kj3).bind fun t238 => (some t238)) else (some false)) = some r := by rw [if_pos rfl] at H; exact H
        clear H
        have H := H1
        clear H1
        by_cases c9 : t236 = 2
        · rw [if_pos c9] at H
          have c9b0 : (t236 == 2) = true := beq_iff_eq.mpr c9
          have c9b1 : (t236 != 2) = false := bne_eq_false_iff_eq.mpr c9
          clear c9
          replace H := Option.bind_eq_some_iff.mp H
          obtain ⟨t238, A100, H⟩ := H
          replace H : (some t238) = some r := H
          have A10 := Aside0.mk A100
          clear A100
          obtain rfl := Option.some.inj H
          go_wp2_with (first | (go_at_call 16; (with_reducible refine (sackbutlaw03_awake.calls kj3  t238 _ A10.out).mono ?_); rintro e w' ⟨rfl, ⟨nd, rfl⟩⟩))
          go_ret
          exact ⟨by first | rfl | (simp [errW_none, errW_some] <;> rfl) | (simp [*, errW_none, errW_some] <;> rfl), by repeat (first | (with_reducible first | exact HB.out | apply below_alloc | apply pw_below_drewN | apply below_drew1) | exact HB.out)⟩
        · rw [if_neg c9] at H
          have c9b0 : (t236 == 2) = false := beq_eq_false_iff_ne.mpr c9
          have c9b1 : (t236 != 2) = true := bne_iff_ne.mpr c9
          obtain rfl := Option.some.inj H
          go_wp2
          go_ret
          exact ⟨by first | rfl | (simp [errW_none, errW_some] <;> rfl) | (simp [*, errW_none, errW_some] <;> rfl), by repeat (first | (with_reducible first | exact HB.out | apply below_alloc | apply pw_below_drewN | apply below_drew1) | exact HB.out)⟩
      · replace c8 := Bool.eq_false_iff.mpr c8
        subst c8
        have H1 : (if 0 ≤ a0 then (if a1 = (wrap64 ((shl .i64 1 a0) - 1)) then (if t235 = true then ((sackbutlaw03_awake.f kj3).bind fun t239 => (some t239)) else (some false)) else ((even_Even.f kj3 a0 (wrap64 ((wrap64 ((shl .i64 1 a0) - 1)) - a1))).bind fun bt240 => (if bt240.2 = 0 then (if (t235 == bt240.1) = true then ((sackbutlaw03_awake.f kj3).bind fun t242 => (some t242)) else (some false)) else (some false)))) else (none)) = some r := by rw [if_neg (show ¬ (false = true) by decide)] at H; exact H
        clear H
        have H := H1
        clear H1
        by_cases c11 : 0 ≤ a0
        · rw [if_pos c11] at H
          have c11b0 := eq_true c11
          have c11b1 : decide (0 ≤ a0) = true := decide_eq_true c11
          clear c11
          obtain ⟨ji12, hji12⟩ : ∃ j_ : Int, (shl .i64 1 a0) = j_ := ⟨_, rfl⟩
          replace H : (if a1 = (wrap64 ((ji12) - 1)) then (if t235 = true then ((sackbutlaw03_awake.f kj3).bind fun t239 => (some t239)) else (some false)) else ((even_Even.f kj3 a0 (wrap64 ((wrap64 ((ji12) - 1)) - a1))).bind fun bt240 => (if bt240.2 = 0 then (if (t235 == bt240.1) = true then ((sackbutlaw03_awake.f kj3).bind fun t242 => (some t242)) else (some false)) else (some false)))) = some r := by first | (rw [hji12] at H; exact H) | (simp only [hji12] at H ⊢; exact H)
          have hji12_ : (IntKind.i64.wrap (1 * 2 ^ min a0.toNat 64)) = ji12 := hji12
          have hji12z : a0 ≤ 64 → (IntKind.i64.wrap (1 * 2 ^ a0.toNat)) = ji12 := shl_small hji12
          have hji12u : (IntKind.i64.wrap (2 ^ min a0.toNat 64)) = ji12 := by have h_ := hji12_; rw [Int.one_mul] at h_; exact h_
          have hji12v : a0 ≤ 64 → (IntKind.i64.wrap (2 ^ a0.toNat)) = ji12 := fun hle_ => by have h_ := hji12z hle_; rw [Int.one_mul] at h_; exact h_
          have hji12y : (wrap64 (1 * 2 ^ min a0.toNat 64)) = ji12 := (i64_w _).symm.trans hji12_
          have hji12x : a0 ≤ 64 → (wrap64 (1 * 2 ^ a0.toNat)) = ji12 := fun h_ => (i64_w _).symm.trans (hji12z h_)
          by_cases c13 : a1 = (wrap64 ((ji12) - 1))
          · rw [if_pos c13] at H
            have c13b0 : (a1 == (wrap64 ((ji12) - 1))) = true := beq_iff_eq.mpr c13
            have c13b1 : (a1 != (wrap64 ((ji12) - 1))) = false := bne_eq_false_iff_eq.mpr c13
            clear c13
            by_cases c14 : t235 = true
            · subst c14
              have H1 : ((sackbutlaw03_awake.f kj3).bind fun t239 => (some t239)) = some r := by rw [if_pos rfl] at H; exact H
              clear H
              have H := H1
              clear H1
              replace H := Option.bind_eq_some_iff.mp H
              obtain ⟨t239, A150, H⟩ := H
              replace H : (some t239) = some r := H
              have A15 := Aside0.mk A150
              clear A150
              obtain rfl := Option.some.inj H
              go_wp2_with (first | (go_at_call 16; (with_reducible refine (sackbutlaw03_awake.calls kj3  t239 _ A15.out).mono ?_); rintro e w' ⟨rfl, ⟨nd, rfl⟩⟩))
              go_ret
              exact ⟨by first | rfl | (simp [errW_none, errW_some] <;> rfl) | (simp only [← hji12]; first | rfl | (simp [errW_none, errW_some] <;> rfl)) | (simp [*, errW_none, errW_some] <;> rfl), by repeat (first | (with_reducible first | exact HB.out | apply below_alloc | apply pw_below_drewN | apply below_drew1) | exact HB.out)⟩
            · replace c14 := Bool.eq_false_iff.mpr c14
              subst c14
              have H1 : (some false) = some r := by rw [if_neg (show ¬ (false = true) by decide)] at H; exact H
              clear H
              have H := H1
              clear H1
              obtain rfl := Option.some.inj H
              go_wp2
              go_ret
              exact ⟨by first | rfl | (simp [errW_none, errW_some] <;> rfl) | (simp only [← hji12]; first | rfl | (simp [errW_none, errW_some] <;> rfl)) | (simp [*, errW_none, errW_some] <;> rfl), by repeat (first | (with_reducible first | exact HB.out | apply below_alloc | apply pw_below_drewN | apply below_drew1) | exact HB.out)⟩
          · rw [if_neg c13] at H
            have c13b0 : (a1 == (wrap64 ((ji12) - 1))) = false := beq_eq_false_iff_ne.mpr c13
            have c13b1 : (a1 != (wrap64 ((ji12) - 1))) = true := bne_iff_ne.mpr c13
            have c16b0 := eq_true (of_decide_eq_true (by first | (with_reducible assumption) | assumption) : 0 ≤ a0)
            replace H := Option.bind_eq_some_iff.mp H
            obtain ⟨⟨t240, t241⟩, A170, H⟩ := H
            replace H : (if t241 = 0 then (if (t235 == t240) = true then ((sackbutlaw03_awake.f kj3).bind fun t242 => (some t242)) else (some false)) else (some false)) = some r := H
            have A17 := Aside0.mk A170
            clear A170
            by_cases c18 : t241 = 0
            · rw [if_pos c18] at H
              have c18b0 : (t241 == 0) = true := beq_iff_eq.mpr c18
              have c18b1 : (t241 != 0) = false := bne_eq_false_iff_eq.mpr c18
              clear c18
              by_cases c19 : (t235 == t240) = true
              · rw [if_pos c19] at H
                have c19b0 : (t235 == t240) = true := c19
                (try (have c19b1 : decide (t235 = t240) = true := by simpa using c19))
                (try (have c19b2 : (t235 == t240) = true := by simpa using c19))
                clear c19
                replace H := Option.bind_eq_some_iff.mp H
                obtain ⟨t242, A200, H⟩ := H
                replace H : (some t242) = some r := H
                have A20 := Aside0.mk A200
                clear A200
                obtain rfl := Option.some.inj H
                go_wp2_with (first | ((with_reducible refine gate_callee (f := 27) rfl ?_); refine goesL_ (some 44) rfl rfl Try.func27 (by kernel_rfl) rfl #[.int .i64 a0, .int .i64 (wrap64 ((wrap64 ((ji12) - 1)) - a1))] rfl (by (try simp only [List.map_toArray, List.map_cons, List.map_nil]); first | done | (simp only [hji12]; rfl) | rfl | (simp only [List.length_drop, List.length_take]; rfl)) ?_; (with_reducible refine (even_Even.calls kj3 a0 (wrap64 ((wrap64 ((ji12) - 1)) - a1)) t240 t241 _ A17.out).mono ?_); rintro e w21 ⟨rfl, hb⟩; refine ⟨_, rfl, ?_⟩; have n0_ := Aside0.mk (below_step (by repeat (first | (with_reducible first | exact HB.out | apply below_alloc | apply pw_below_drewN | apply below_drew1) | exact HB.out)) hb); clear HB; have HB := n0_; clear n0_; (try clear hb); (try clear hb2); (try clear hk); (try clear hi)) | (go_at_call 16; (with_reducible refine (sackbutlaw03_awake.calls kj3  t242 _ A20.out).mono ?_); rintro e w' ⟨rfl, ⟨nd, rfl⟩⟩))
                go_ret
                exact ⟨by first | rfl | (simp [errW_none, errW_some] <;> rfl) | (simp only [← hji12]; first | rfl | (simp [errW_none, errW_some] <;> rfl)) | (simp [*, errW_none, errW_some] <;> rfl), by repeat (first | (with_reducible first | exact HB.out | apply below_alloc | apply pw_below_drewN | apply below_drew1) | exact HB.out)⟩
              · rw [if_neg c19] at H
                have c19b0 : (t235 == t240) = false := by simpa using c19
                (try (have c19b1 : decide (t235 = t240) = false := by simpa using c19))
                (try (have c19b2 : (t235 == t240) = false := by simpa using c19))
                (try (have c19b3 : ¬ (t235 = t240) := by simpa using c19))
                clear c19
                obtain rfl := Option.some.inj H
                go_wp2_with (first | ((with_reducible refine gate_callee (f := 27) rfl ?_); refine goesL_ (some 44) rfl rfl Try.func27 (by kernel_rfl) rfl #[.int .i64 a0, .int .i64 (wrap64 ((wrap64 ((ji12) - 1)) - a1))] rfl (by (try simp only [List.map_toArray, List.map_cons, List.map_nil]); first | done | (simp only [hji12]; rfl) | rfl | (simp only [List.length_drop, List.length_take]; rfl)) ?_; (with_reducible refine (even_Even.calls kj3 a0 (wrap64 ((wrap64 ((ji12) - 1)) - a1)) t240 t241 _ A17.out).mono ?_); rintro e w22 ⟨rfl, hb⟩; refine ⟨_, rfl, ?_⟩; have n0_ := Aside0.mk (below_step (by repeat (first | (with_reducible first | exact HB.out | apply below_alloc | apply pw_below_drewN | apply below_drew1) | exact HB.out)) hb); clear HB; have HB := n0_; clear n0_; (try clear hb); (try clear hb2); (try clear hk); (try clear hi)))
                go_ret
                exact ⟨by first | rfl | (simp [errW_none, errW_some] <;> rfl) | (simp only [← hji12]; first | rfl | (simp [errW_none, errW_some] <;> rfl)) | (simp [*, errW_none, errW_some] <;> rfl), by repeat (first | (with_reducible first | exact HB.out | apply below_alloc | apply pw_below_drewN | apply below_drew1) | exact HB.out)⟩
            · rw [if_neg c18] at H
              have c18b0 : (t241 == 0) = false := beq_eq_false_iff_ne.mpr c18
              have c18b1 : (t241 != 0) = true := bne_iff_ne.mpr c18
              obtain rfl := Option.some.inj H
              go_wp2_with (first | ((with_reducible refine gate_callee (f := 27) rfl ?_); refine goesL_ (some 44) rfl rfl Try.func27 (by kernel_rfl) rfl #[.int .i64 a0, .int .i64 (wrap64 ((wrap64 ((ji12) - 1)) - a1))] rfl (by (try simp only [List.map_toArray, List.map_cons, List.map_nil]); first | done | (simp only [hji12]; rfl) | rfl | (simp only [List.length_drop, List.length_take]; rfl)) ?_; (with_reducible refine (even_Even.calls kj3 a0 (wrap64 ((wrap64 ((ji12) - 1)) - a1)) t240 t241 _ A17.out).mono ?_); rintro e w23 ⟨rfl, hb⟩; refine ⟨_, rfl, ?_⟩; have n0_ := Aside0.mk (below_step (by repeat (first | (with_reducible first | exact HB.out | apply below_alloc | apply pw_below_drewN | apply below_drew1) | exact HB.out)) hb); clear HB; have HB := n0_; clear n0_; (try clear hb); (try clear hb2); (try clear hk); (try clear hi)))
              go_ret
              exact ⟨by first | rfl | (simp [errW_none, errW_some] <;> rfl) | (simp only [← hji12]; first | rfl | (simp [errW_none, errW_some] <;> rfl)) | (simp [*, errW_none, errW_some] <;> rfl), by repeat (first | (with_reducible first | exact HB.out | apply below_alloc | apply pw_below_drewN | apply below_drew1) | exact HB.out)⟩
        · rw [if_neg c11] at H
          exact absurd H (by simp)

/-- THE ONE PURE STATEMENT of sackbutlaw03_EvenOthers: yours. -/
def sackbutlaw03_EvenOthers.Pure : Prop := ∀ (a0 : Int) (a1 : Int), (Lit.int .i64 a0).wf = true → (Lit.int .i64 a1).wf = true → ∃ k, sackbutlaw03_EvenOthers.f k a0 a1 = some true
theorem sackbutlaw03_EvenOthers.walk (P : sackbutlaw03_EvenOthers.Pure) (a0 : Int) (a1 : Int) (w : World) (w0 : (Lit.int .i64 a0).wf = true) (w1 : (Lit.int .i64 a1).wf = true) :
    Calls Try.prog 6 #[.int .i64 a0, .int .i64 a1] w fun e w' => e = .returned (.bool true) ∧ Below w.heap.size w w' := by
  obtain ⟨k, h⟩ := P a0 a1 w0 w1
  refine (sackbutlaw03_EvenOthers.calls k a0 a1 true w h).mono ?_
  rintro e w' ⟨rfl, hd⟩
  exact ⟨rfl, hd⟩

/-! ### even_Two: function 28 (our own proof) -/
-- extern even_Two: function 28: kinds ['i64', 'i64']: results ['bool', 'i64']
def even_Two.ok (z : List Int) : Bool := z.length == 2
def even_Two.f (k : Nat) (a0 a1 : Int) : Option (Bool × Int) := (even_read.f k a0 a1).bind fun bt => if bt.2.2 = true then (even_scale_steps.all k bt.1 bt.2.1 1 (bt.2.1.length - 1)).bind fun zs => some (if zs.all even_Two.ok = true then decide (bt.2.1.length > 1) else false, 0) else some (false, 2)
theorem even_Two.mono : ∀ a0 a1 k, LeO (even_Two.f k a0 a1) (even_Two.f (k + 1) a0 a1) := fun n t k => LeO.bind (even_read.mono _ _ _) (fun _ => LeO.ite (LeO.bind (even_scale_steps.all_mono _ _ _ _ k) (fun _ => LeO.refl _)) (LeO.refl _))
section
open Go.Shelf
attribute [local go_sem] Oper.semAt_some
set_option maxHeartbeats 4000000 in
set_option maxRecDepth 100000 in
theorem even_Two.calls (k : Nat) (a0 : Int) (a1 : Int) (r1 : Bool) (r2 : Int) (w : World) (h : even_Two.f k a0 a1 = some (r1, r2)) :
    Calls Try.prog 28 #[.int .i64 a0, .int .i64 a1] w fun e w' => e = .returned (.tuple #[.bool r1, .int .i64 r2]) ∧ Below w.heap.size w w' := by
  obtain ⟨⟨n, t, yes⟩, hread0, h⟩ := Option.bind_eq_some_iff.1 h
  have hread := Aside0.mk hread0
  clear hread0
  have H := Aside0.mk h
  clear h
  refine (callsIn_wide (n := 3)).1 ?_
  refine callsIn_of_wp_marks Try.func28 rfl trivial ?_ rfl
  simp only [Try.ntmps28, List.size_toArray, List.length_cons, List.length_nil, Nat.reduceAdd, Nat.reduceSub, Array.replicate_succ, Array.replicate_zero, List.push_toArray, List.append_toArray, List.nil_append, List.cons_append]
  have hU0 : Aside0 (((w.alloc (.cells #[.bool false] 4)).alloc (.cells #[.int .i64 0] 22)).heap[w.heap.size]? = some (.cells #[.bool false] 4 (0, 0))) := ⟨(Below.heap_alloc _ _ _ (by simp)).trans (World.alloc_heap_new w _)⟩
  have hU1 : Aside0 (((w.alloc (.cells #[.bool false] 4)).alloc (.cells #[.int .i64 0] 22)).heap[w.heap.size + 1]? = some (.cells #[.int .i64 0] 22 (0, 0))) := ⟨by have := World.alloc_heap_new (w.alloc (.cells #[.bool false] 4)) (.cells #[.int .i64 0] 22); rwa [World.size_alloc] at this⟩
  have hBU : Aside0 (Below w.heap.size w ((w.alloc (.cells #[.bool false] 4)).alloc (.cells #[.int .i64 0] 22))) := ⟨((Below.refl _ w).alloc (Nat.le_refl _) _).alloc (by simp) _⟩
  cases yes with
  | false =>
    obtain ⟨rfl, rfl⟩ : false = r1 ∧ (2 : Int) = r2 := by simpa using H.out
    gi_wp2_with fail
    refine ⟨trivial, ?_⟩
    gi_at_call 45
    refine (callsIn_wide.2 (even_read.calls k a0 a1 n t false _ hread.out)).mono ?_
    rintro e w' ⟨v, rfl, hR0, hb0⟩
    have hR := Aside0.mk hR0
    have hb := Aside0.mk hb0
    have g0 := Aside0.mk (blk_below hU0.out hb0)
    have g1 := Aside0.mk (blk_below hU1.out hb0)
    have hB := Aside0.mk (hBU.out.trans (hb0.mono hBU.out.size))
    have hsz : w.heap.size + 1 < w'.heap.size := by (have hs_ := hb0.size; simp at hs_; omega)
    clear hR0 hb0
    obtain ⟨A', c', hv0, hl0, hC0⟩ := Kd.R_reads hR.out
    subst hv0
    have hC' := Aside0.mk hC0
    have hl' := Aside0.mk hl0
    clear hC0 hl0
    have hc0 : w'.cell? ⟨w.heap.size, 0, none⟩ = some (.bool false) := (blk_cell g0.out 0).trans rfl
    have hf0 : w'.frozen? ⟨w.heap.size, 0, none⟩ = false := blk_frozen g0.out 0
    have hc1 : w'.cell? ⟨w.heap.size + 1, 0, none⟩ = some (.int .i64 0) := (blk_cell g1.out 0).trans rfl
    have hf1 : w'.frozen? ⟨w.heap.size + 1, 0, none⟩ = false := blk_frozen g1.out 0
    have hsz0 : w.heap.size < w'.heap.size := by omega
    have hn0 : ¬ w.heap.size = w'.heap.size := by omega
    have hn0' : ¬ w'.heap.size = w.heap.size := by omega
    have hn1 : ¬ w.heap.size + 1 = w'.heap.size := by omega
    have hn1' : ¬ w'.heap.size = w.heap.size + 1 := by omega
    gi_wp2
    have k0 : ((((w'.setCell ⟨w.heap.size, 0, none⟩ (.bool false)).setCell ⟨w.heap.size + 1, 0, none⟩ (.int .i64 2)).alloc (.cells #[.int .i64 n, .slice A' t.length c'] 47)).heap[w.heap.size]? = some (.cells #[.bool false] 4 (0, 0))) :=
      blk_alloc (blk_far (blk_put (cs := #[.bool false]) g0.out 0 _ rfl) (by simp) _) _
    have k1 : ((((w'.setCell ⟨w.heap.size, 0, none⟩ (.bool false)).setCell ⟨w.heap.size + 1, 0, none⟩ (.int .i64 2)).alloc (.cells #[.int .i64 n, .slice A' t.length c'] 47)).heap[w.heap.size + 1]? = some (.cells #[.int .i64 2] 22 (0, 0))) :=
      blk_alloc (blk_put (cs := #[.int .i64 0]) (blk_far g1.out (by simp) _) 0 _ rfl) _
    refine ⟨.tuple #[.bool false, .int .i64 2], ?_, rfl, ?_⟩
    · have q0 := (blk_cell k0 0).trans rfl
      have q1 := (blk_cell k1 0).trans rfl
      simp [results, Try.results28, go_sem, q0, q1]
    · exact ((below_set (below_set hB.out (Nat.le_refl _)) (by omega))).alloc (by have := hB.out.size; simpa [World.setCell] using this) _
  | true =>
    gi_wp2_with fail
    refine ⟨trivial, ?_⟩
    gi_at_call 45
    refine (callsIn_wide.2 (even_read.calls k a0 a1 n t true _ hread.out)).mono ?_
    rintro e w' ⟨v, rfl, hR0, hb0⟩
    have hR := Aside0.mk hR0
    have hb := Aside0.mk hb0
    have g0 := Aside0.mk (blk_below hU0.out hb0)
    have g1 := Aside0.mk (blk_below hU1.out hb0)
    have hB := Aside0.mk (hBU.out.trans (hb0.mono hBU.out.size))
    have hsz : w.heap.size + 1 < w'.heap.size := by (have hs_ := hb0.size; simp at hs_; omega)
    clear hR0 hb0
    obtain ⟨A', c', hv0, hl0, hC0⟩ := Kd.R_reads hR.out
    subst hv0
    have hC' := Aside0.mk hC0
    have hl' := Aside0.mk hl0
    clear hC0 hl0
    have hc0 : w'.cell? ⟨w.heap.size, 0, none⟩ = some (.bool false) := (blk_cell g0.out 0).trans rfl
    have hf0 : w'.frozen? ⟨w.heap.size, 0, none⟩ = false := blk_frozen g0.out 0
    have hc1 : w'.cell? ⟨w.heap.size + 1, 0, none⟩ = some (.int .i64 0) := (blk_cell g1.out 0).trans rfl
    have hf1 : w'.frozen? ⟨w.heap.size + 1, 0, none⟩ = false := blk_frozen g1.out 0
    have hsz0 : w.heap.size < w'.heap.size := by omega
    have hn0 : ¬ w.heap.size = w'.heap.size := by omega
    have hn0' : ¬ w'.heap.size = w.heap.size := by omega
    have hn1 : ¬ w.heap.size + 1 = w'.heap.size := by omega
    have hn1' : ¬ w'.heap.size = w.heap.size + 1 := by omega
    gi_wp2
    obtain ⟨zs, hall0, H2⟩ := Option.bind_eq_some_iff.1 (show (even_scale_steps.all k n t 1 (t.length - 1)).bind (fun zs => some (if zs.all even_Two.ok = true then decide (t.length > 1) else false, (0 : Int))) = some (r1, r2) from H.out)
    obtain ⟨hr1, rfl⟩ : (if zs.all even_Two.ok = true then decide (t.length > 1) else false) = r1 ∧ (0 : Int) = r2 := by simpa using H2
    obtain ⟨hzl, hz⟩ := even_scale_steps.all_at hall0
    have Hz := Aside0.mk hz
    have Hzl := Aside0.mk hzl
    have Hr := Aside0.mk hr1
    clear hr1 hz hzl hall0 H2 H h
    have hC2 : Kd.C (Kd.int .i64) (w'.alloc (.cells #[.int .i64 n, .slice A' t.length c'] 47)) A' t.length t := Kd.C_below hC'.out ((Below.refl _ w').alloc (Nat.le_refl _) _)
    have G2 : (w'.alloc (.cells #[.int .i64 n, .slice A' t.length c'] 47)).heap[w'.heap.size]? = some (.cells #[.int .i64 n, .slice A' t.length c'] 47 (0, 0)) := World.alloc_heap_new _ _
    have G0 : (w'.alloc (.cells #[.int .i64 n, .slice A' t.length c'] 47)).heap[w.heap.size]? = some (.cells #[.bool false] 4 (0, 0)) := blk_alloc g0.out _
    have G1 : (w'.alloc (.cells #[.int .i64 n, .slice A' t.length c'] 47)).heap[w.heap.size + 1]? = some (.cells #[.int .i64 0] 22 (0, 0)) := blk_alloc g1.out _
    have GB : Below w.heap.size w (w'.alloc (.cells #[.int .i64 n, .slice A' t.length c'] 47)) := hB.out.alloc (by omega) _
    refine Range.wp_range (gf := 52) (fst := #[.agg #[.int .i64 n, .slice A' t.length c']]) (lb := #[]) rfl (enters_of Try.func52 (by kernel_rfl) rfl)
      (steps_iter 1 n A' c' t (fun j => zs.getD (j - 1) []) ?hsp hl'.out _ hC2) (Below.refl _ _) (fun h k => h.trans k) (fun h => .of_noted h) (fun _ => rfl)
      (fun pre W => pre.map (·.2) = zs.take pre.length ∧ (∀ x, x ∈ pre → even_Two.ok x.2 = true) ∧ W.heap[w.heap.size]? = some (.cells #[.bool false] 4 (0, 0)) ∧ W.heap[w.heap.size + 1]? = some (.cells #[.int .i64 0] 22 (0, 0)) ∧ W.heap[w'.heap.size]? = some (.cells #[.int .i64 n, .slice A' t.length c'] 47 (0, 0)) ∧ Below w.heap.size w W)
      (fun c pre W => c = .ret ∧ zs.all even_Two.ok = false ∧ W.heap[w.heap.size]? = some (.cells #[.bool false] 4 (0, 0)) ∧ W.heap[w.heap.size + 1]? = some (.cells #[.int .i64 0] 22 (0, 0)) ∧ Below w.heap.size w W)
      (fun s A B h k => ⟨h.1, h.2.1, Range.block_below h.2.2.1 k, Range.block_below h.2.2.2.1 k, Range.block_below h.2.2.2.2.1 k, h.2.2.2.2.2.trans (k.mono h.2.2.2.2.2.size)⟩)
      (fun s A B h k => ⟨h.1, h.2.1, Range.block_noted h.2.2.1 (by simp; omega) k, Range.block_noted h.2.2.2.1 (by simp; omega) k, Range.block_noted h.2.2.2.2.1 (by simp) k, Range.below_noted h.2.2.2.2.2 (by simp; omega) (Nat.le_refl _) k⟩)
      (fun c s A B h k => ⟨h.1, h.2.1, Range.block_below h.2.2.1 k, Range.block_below h.2.2.2.1 k, h.2.2.2.2.trans (k.mono h.2.2.2.2.size)⟩)
      (fun c s A B h k => ⟨h.1, h.2.1, Range.block_noted h.2.2.1 (by simp; omega) k, Range.block_noted h.2.2.2.1 (by simp; omega) k, Range.below_noted h.2.2.2.2 (by simp; omega) (Nat.le_refl _) k⟩)
      ⟨rfl, fun x hx => by simp at hx, G0, G1, G2, GB⟩ (fun x => { tmps := #[.int .i64 a0, .int .i64 a1, undef, undef, .pointer (some ⟨w.heap.size, 0, none⟩), .pointer (some ⟨w.heap.size + 1, 0, none⟩), .pointer (some ⟨w'.heap.size, 0, none⟩), .bool true, x.1, .tuple #[.agg #[.int .i64 n, .slice A' t.length c'], .bool true], .int .i64 a0, .int .i64 a1, .tuple #[.agg #[.int .i64 n, .slice A' t.length c'], .bool true], .agg #[.int .i64 n, .slice A' t.length c'], .bool true, .bool true, .bool false, .agg #[.int .i64 n, .slice A' t.length c'], .func (.func 52) #[.agg #[.int .i64 n, .slice A' t.length c']] #[], x.1, undef, undef, undef, undef, undef, undef, undef], defers := [] }) ?assign ?body ?done ?stop
    case hsp =>
      intro j h1 h2
      have := Hz.out (j - 1) (by have := Hzl.out; omega)
      exact ⟨k, by rw [show 1 + (j - 1) = j by omega] at this; exact this⟩
    case assign =>
      intro l x W K hK
      gi_wp2
      exact hK
    case body =>
      rintro l pre ⟨v, z⟩ W W' hi ⟨hlt, hx, A2, c2, hv, hlc, hC0⟩ hno ⟨hp, hok, hcell, hcell1, hbox, hbel⟩
      dsimp only at hx hv hlc hC0
      subst hv
      have hpl : pre.length < zs.length := by have := Hzl.out; omega
      have HX := Aside0.mk hx
      have HP := Aside0.mk hp
      have HO := Aside0.mk hok
      have HCell := Aside0.mk hcell
      have HCell1 := Aside0.mk hcell1
      have HBox := Aside0.mk hbox
      have HBel := Aside0.mk hbel
      have qc0 : W'.cell? ⟨w.heap.size, 0, none⟩ = some (.bool false) := (blk_cell hcell 0).trans rfl
      have qf0 : W'.frozen? ⟨w.heap.size, 0, none⟩ = false := blk_frozen hcell 0
      have qc1 : W'.cell? ⟨w.heap.size + 1, 0, none⟩ = some (.int .i64 0) := (blk_cell hcell1 0).trans rfl
      have qf1 : W'.frozen? ⟨w.heap.size + 1, 0, none⟩ = false := blk_frozen hcell1 0
      clear hi hx hno hp hok hcell hcell1 hbox hbel hC0 hc0 hf0 hc1 hf1 hC2 G2 G0 G1 GB
      by_cases hg : z.length = 2
      · have hg1 : ((z.length : Int) != 2) = false := by simp [hg]
        have hg2 : ((z.length : Int) == 2) = true := by simp [hg]
        have HG := Aside0.mk hg
        clear hg
        gi_wp2
        refine ⟨KeepsOthers.refl _, ⟨Nat.le_refl _, fun _ _ h _ => h⟩, ?_, ?_, HCell.out, HCell1.out, HBox.out, HBel.out⟩
        · have hlen : (pre ++ [((.slice A2 z.length c2 : Value), z)]).length = pre.length + 1 := by simp
          rw [hlen, List.map_append, HP.out, List.take_succ_eq_append_getElem hpl]
          simp [HX.out, hpl]
        · intro x hx
          rcases List.mem_append.1 hx with hx | hx
          · exact HO.out x hx
          · rw [List.mem_singleton.1 hx]
            simp [even_Two.ok, HG.out]
      · have hg1 : ((z.length : Int) != 2) = true := by simp; omega
        have hg2 : ((z.length : Int) == 2) = false := by simp; omega
        have HG := Aside0.mk hg
        clear hg
        gi_wp2
        refine ⟨(KeepsOthers.setCell _ _ _).trans (KeepsOthers.setCell _ _ _), rfl, ?_, ?_, ?_, below_set (below_set HBel.out (Nat.le_refl _)) (by omega)⟩
        · refine Bool.eq_false_iff.2 (fun h => ?_)
          have h1 := List.all_eq_true.1 h z (by rw [HX.out, List.getD_eq_getElem?_getD, List.getElem?_eq_getElem (by simpa using hpl)]; exact List.getElem_mem _)
          simp [even_Two.ok, HG.out] at h1
        · exact blk_far (blk_put (cs := #[.bool false]) HCell.out 0 _ rfl) (by simp) _
        · exact blk_put (cs := #[.int .i64 0]) (blk_far HCell1.out (by simp) _) 0 _ rfl
    case done =>
      rintro D xs W hD hS ⟨hmap, hok, hcell, hcell1, hbox, hbel⟩ hK
      have HOk := Aside0.mk hok
      have HMap := Aside0.mk hmap
      have HBel := Aside0.mk hbel
      have HCell := Aside0.mk hcell
      have HCell1 := Aside0.mk hcell1
      have HK := Aside0.mk hK
      have HD := Aside0.mk hD
      have qc0 : W.cell? ⟨w.heap.size, 0, none⟩ = some (.bool false) := (blk_cell hcell 0).trans rfl
      have qf0 : W.frozen? ⟨w.heap.size, 0, none⟩ = false := blk_frozen hcell 0
      have qc1 : W.cell? ⟨w.heap.size + 1, 0, none⟩ = some (.int .i64 0) := (blk_cell hcell1 0).trans rfl
      have qf1 : W.frozen? ⟨w.heap.size + 1, 0, none⟩ = false := blk_frozen hcell1 0
      have qb1 : W.cell? ⟨w'.heap.size, 1, none⟩ = some (.slice A' t.length c') := (blk_cell hbox 1).trans rfl
      clear hmap hok hbel hcell hcell1 hK hbox hc0 hf0 hc1 hf1 hC2 G2 G0 G1 GB hD
      have Hs0 := Aside0.mk hsz
      gi_wp2
      have hall' : zs.all even_Two.ok = true := by
        refine List.all_eq_true.2 (fun z hz => ?_)
        have h1 : xs.map (·.2) = zs := by
          rw [HMap.out, List.take_of_length_le (by have := Hzl.out; omega)]
        rw [← h1] at hz
        obtain ⟨x, hx, rfl⟩ := List.mem_map.1 hz
        exact HOk.out x hx
      have hDn : w'.heap.size < D := by have := HD.out; simp at this; omega
      have hr1 : decide (1 < (t.length : Int)) = r1 := by
        have := Hr.out
        rw [if_pos hall'] at this
        rw [← this]
        simp; omega
      have hK' : ((W.setCell ⟨w.heap.size, 0, none⟩ (.bool (decide (1 < (t.length : Int))))).setCell ⟨w.heap.size + 1, 0, none⟩ (.int .i64 0)).heap[D]? = some (.deferred (some [])) :=
        ((Below.heap_setCell _ ⟨w.heap.size + 1, 0, none⟩ _ D (by simp; omega)).trans ((Below.heap_setCell W ⟨w.heap.size, 0, none⟩ _ D (by simp; omega)).trans HK.out))
      refine ⟨by simp, .inl ⟨_, _, rfl, run_takeDeferred hK', ?_⟩⟩
      have k0 : (((W.setCell ⟨w.heap.size, 0, none⟩ (.bool (decide (1 < (t.length : Int))))).setCell ⟨w.heap.size + 1, 0, none⟩ (.int .i64 0)).putObj D (.deferred none)).heap[w.heap.size]? = some (.cells #[.bool (decide (1 < (t.length : Int)))] 4 (0, 0)) :=
        (World.putObj_heap_other (by omega)).trans (blk_far (blk_put (cs := #[.bool false]) HCell.out 0 _ rfl) (by simp) _)
      have k1 : (((W.setCell ⟨w.heap.size, 0, none⟩ (.bool (decide (1 < (t.length : Int))))).setCell ⟨w.heap.size + 1, 0, none⟩ (.int .i64 0)).putObj D (.deferred none)).heap[w.heap.size + 1]? = some (.cells #[.int .i64 0] 22 (0, 0)) :=
        (World.putObj_heap_other (by omega)).trans (blk_put (cs := #[.int .i64 0]) (blk_far HCell1.out (by simp) _) 0 _ rfl)
      have q0 := (blk_cell k0 0).trans rfl
      have q1 := (blk_cell k1 0).trans rfl
      refine ⟨.tuple #[.bool (decide (1 < (t.length : Int))), .int .i64 0], by simp [results, Try.results28, go_sem, q0, q1], by rw [hr1], ?_⟩
      exact (below_set (below_set HBel.out (Nat.le_refl _)) (by omega)).grown (grownBy_putObj' _ D _) (by have := HBel.out.size; simpa [World.setCell] using this) (fun k e => by cases e; omega)
    case stop =>
      rintro D c pre W hD hS ⟨rfl, hno, hcell, hcell1, hbel⟩ hK
      have hDn : w'.heap.size < D := by simp at hD; omega
      have k0 : (W.putObj D (.deferred none)).heap[w.heap.size]? = some (.cells #[.bool false] 4 (0, 0)) := (World.putObj_heap_other (by omega)).trans hcell
      have k1 : (W.putObj D (.deferred none)).heap[w.heap.size + 1]? = some (.cells #[.int .i64 0] 22 (0, 0)) := (World.putObj_heap_other (by omega)).trans hcell1
      have q0 := (blk_cell k0 0).trans rfl
      have q1 := (blk_cell k1 0).trans rfl
      have HBel := Aside0.mk hbel
      have HNo := Aside0.mk hno
      have HK := Aside0.mk hK
      clear hbel hno hK hcell hcell1 hc0 hf0 hc1 hf1 hC2 G2 G0 G1 GB hD
      gi_wp2
      have hr1 : false = r1 := by
        have := Hr.out
        rw [HNo.out] at this
        simpa using this
      refine ⟨by simp, .inl ⟨_, _, rfl, run_takeDeferred HK.out, ?_⟩⟩
      refine ⟨.tuple #[.bool false, .int .i64 0], by simp [results, Try.results28, go_sem, q0, q1], by rw [hr1], ?_⟩
      exact HBel.out.grown (grownBy_putObj' _ D _) HBel.out.size (fun k e => by cases e; omega)
end

end Go.Proofs.Ythbcdmbicfmeaaa.P
