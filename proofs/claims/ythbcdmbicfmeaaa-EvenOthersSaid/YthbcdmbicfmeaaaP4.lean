-- Written by this session's program (wip/tools/myprint.py) out of the translation.
import Derived.Test.YthbcdmbicfmeaaaP0
import Derived.Test.YthbcdmbicfmeaaaP2
import Derived.Test.YthbcdmbicfmeaaaP3
namespace Go.Proofs.Ythbcdmbicfmeaaa.P
open Go.RowKit Go.Proofs.YthbcdmbicfmeaaaW.PrintWords Go.Proofs.YthbcdmbicfmeaaaW.PrintLast Go.Proofs.YthbcdmbicfmeaaaW.PrintMore
attribute [local go_sem] max2_int min2_int max_two min_two max_three min_three max_four min_four   -- for this text's walks alone
set_option linter.unusedVariables false
set_option linter.unusedSimpArgs false

/-! ### sackbutlaw03_EvenSteps: function 4 -/
mutual
def sackbutlaw03_EvenSteps.j0 : Nat → Int → Int → Int → Int → Int → Bool → Option (Bool)
  | 0, _, _, _, _, _, _ => none
  | k + 1, x0, x1, x2, x7, x8, x26 => if x26 = true then (if x8 = 2 then ((sackbutlaw03_awake.f k).bind fun t153 => (some t153)) else (some false)) else (if (IntKind.u64.wrap (x0)) = 0 then (none) else ((sackbutlaw03_moved.f x0 x7 (wrap64 (Int.tmod (IntKind.u64.wrap (x2)) (IntKind.u64.wrap (x0))))).bind fun t154 => ((even_Maker.f k x0 t154).bind fun bt155 => ((sackbutlaw03_gcd.f k x0 x1).bind fun t157 => (if t157 = 1 then (if bt155.2 = 0 then (if bt155.1 < 1 then (sackbutlaw03_EvenSteps.j1 k x0 x1 t154 bt155.1 true) else (if bt155.1 ≥ x0 then (sackbutlaw03_EvenSteps.j1 k x0 x1 t154 bt155.1 true) else (if x1 ≥ 2 then (if x0 = 0 then (none) else (if (Int.tmod (wrap64 (x1 * bt155.1)) x0) = 1 then (sackbutlaw03_EvenSteps.j1 k x0 x1 t154 bt155.1 false) else (sackbutlaw03_EvenSteps.j1 k x0 x1 t154 bt155.1 ((Int.tmod (wrap64 (x1 * bt155.1)) x0) != (wrap64 (x0 - 1)))))) else (sackbutlaw03_EvenSteps.j1 k x0 x1 t154 bt155.1 false)))) else (sackbutlaw03_EvenSteps.j1 k x0 x1 t154 bt155.1 true)) else (if bt155.2 = 0 then ((sackbutlaw03_awake.f k).bind fun t158 => (some t158)) else (if bt155.2 = 4 then ((sackbutlaw03_awake.f k).bind fun t159 => (some t159)) else (some false))))))))
def sackbutlaw03_EvenSteps.j1 : Nat → Int → Int → Int → Int → Bool → Option (Bool)
  | 0, _, _, _, _, _ => none
  | k + 1, x0, x1, x7, x9, x92 => if x92 = true then (some false) else (sackbutlaw03_EvenSteps.l0 k x0 x1 x7 x9 x0 0)
def sackbutlaw03_EvenSteps.l0 : Nat → Int → Int → Int → Int → Int → Int → Option (Bool)
  | 0, _, _, _, _, _, _ => none
  | k + 1, x0, x1, x7, x9, x93, x94 => if x94 < x93 then (sackbutlaw03_EvenSteps.l1 k x0 x1 x7 x9 x94 0 x93 x94 x1 0) else (some false)
def sackbutlaw03_EvenSteps.l1 : Nat → Int → Int → Int → Int → Int → Int → Int → Int → Int → Int → Option (Bool)
  | 0, _, _, _, _, _, _, _, _, _, _ => none
  | k + 1, x0, x1, x7, x9, x10, x11, x93, x94, x97, x98 => if x98 < x97 then (if x0 = 0 then (none) else (if 0 ≤ (Int.tmod (wrap64 (x10 + (wrap64 (x98 * x9)))) x0) then (sackbutlaw03_EvenSteps.l1 k x0 x1 x7 x9 x10 (Go.bits .or .i64 x11 (shl .i64 1 (Int.tmod (wrap64 (x10 + (wrap64 (x98 * x9)))) x0))) x93 x94 x97 (wrap64 (x98 + 1))) else (none))) else (if x11 = x7 then ((sackbutlaw03_awake.f k).bind fun t160 => (some t160)) else (sackbutlaw03_EvenSteps.l0 k x0 x1 x7 x9 x93 (wrap64 (x94 + 1))))
end
def sackbutlaw03_EvenSteps.f (k : Nat) (a0 : Int) (a1 : Int) (a2 : Int) : Option (Bool) := (even_Spread.f k a0 a1 0).bind fun bt150 => (if bt150.2 = 0 then ((sackbutref03_Part.f a0 a1).bind fun t152 => (sackbutlaw03_EvenSteps.j0 k a0 a1 a2 bt150.1 bt150.2 (!t152))) else (sackbutlaw03_EvenSteps.j0 k a0 a1 a2 bt150.1 bt150.2 true))
theorem sackbutlaw03_EvenSteps.mono_l : ∀ k, (∀ y0 y1 y2 y3 y4 y5, LeO (sackbutlaw03_EvenSteps.j0 k y0 y1 y2 y3 y4 y5) (sackbutlaw03_EvenSteps.j0 (k + 1) y0 y1 y2 y3 y4 y5)) ∧ (∀ y0 y1 y2 y3 y4, LeO (sackbutlaw03_EvenSteps.j1 k y0 y1 y2 y3 y4) (sackbutlaw03_EvenSteps.j1 (k + 1) y0 y1 y2 y3 y4)) ∧ (∀ y0 y1 y2 y3 y4 y5, LeO (sackbutlaw03_EvenSteps.l0 k y0 y1 y2 y3 y4 y5) (sackbutlaw03_EvenSteps.l0 (k + 1) y0 y1 y2 y3 y4 y5)) ∧ (∀ y0 y1 y2 y3 y4 y5 y6 y7 y8 y9, LeO (sackbutlaw03_EvenSteps.l1 k y0 y1 y2 y3 y4 y5 y6 y7 y8 y9) (sackbutlaw03_EvenSteps.l1 (k + 1) y0 y1 y2 y3 y4 y5 y6 y7 y8 y9))
  | 0 => ⟨fun _ _ _ _ _ _ r h => by simp [sackbutlaw03_EvenSteps.j0] at h, fun _ _ _ _ _ r h => by simp [sackbutlaw03_EvenSteps.j1] at h, fun _ _ _ _ _ _ r h => by simp [sackbutlaw03_EvenSteps.l0] at h, fun _ _ _ _ _ _ _ _ _ _ r h => by simp [sackbutlaw03_EvenSteps.l1] at h⟩
  | k + 1 => by
    obtain ⟨ih0, ih1, ih2, ih3⟩ := sackbutlaw03_EvenSteps.mono_l k
    refine ⟨?_, ?_, ?_, ?_⟩
    · intro y0 y1 y2 y3 y4 y5
      unfold sackbutlaw03_EvenSteps.j0
      repeat' first
      | (with_reducible exact ih0 _ _ _ _ _ _)
      | (with_reducible exact ih1 _ _ _ _ _)
      | (with_reducible exact ih2 _ _ _ _ _ _)
      | (with_reducible exact ih3 _ _ _ _ _ _ _ _ _ _)
      | (with_reducible exact even_Maker.mono _ _ _)
      | (with_reducible exact even_Spread.mono _ _ _ _)
      | (with_reducible exact sackbutlaw03_awake.mono _)
      | (with_reducible exact sackbutlaw03_gcd.mono _ _ _)
      | (with_reducible exact LeO.refl _)
      | (with_reducible exact LeO.none _)
      | (with_reducible refine LeO.ite ?_ ?_)
      | (with_reducible refine LeO.bind ?_ (fun _ => ?_))
      | exact ih0 _ _ _ _ _ _
      | exact ih1 _ _ _ _ _
      | exact ih2 _ _ _ _ _ _
      | exact ih3 _ _ _ _ _ _ _ _ _ _
      | exact even_Maker.mono _ _ _
      | exact even_Spread.mono _ _ _ _
      | exact sackbutlaw03_awake.mono _
      | exact sackbutlaw03_gcd.mono _ _ _
      | exact LeO.none _
      | refine LeO.ite ?_ ?_
      | refine LeO.bind ?_ (fun _ => ?_)
    · intro y0 y1 y2 y3 y4
      unfold sackbutlaw03_EvenSteps.j1
      repeat' first
      | (with_reducible exact ih0 _ _ _ _ _ _)
      | (with_reducible exact ih1 _ _ _ _ _)
      | (with_reducible exact ih2 _ _ _ _ _ _)
      | (with_reducible exact ih3 _ _ _ _ _ _ _ _ _ _)
      | (with_reducible exact even_Maker.mono _ _ _)
      | (with_reducible exact even_Spread.mono _ _ _ _)
      | (with_reducible exact sackbutlaw03_awake.mono _)
      | (with_reducible exact sackbutlaw03_gcd.mono _ _ _)
      | (with_reducible exact LeO.refl _)
      | (with_reducible exact LeO.none _)
      | (with_reducible refine LeO.ite ?_ ?_)
      | (with_reducible refine LeO.bind ?_ (fun _ => ?_))
      | exact ih0 _ _ _ _ _ _
      | exact ih1 _ _ _ _ _
      | exact ih2 _ _ _ _ _ _
      | exact ih3 _ _ _ _ _ _ _ _ _ _
      | exact even_Maker.mono _ _ _
      | exact even_Spread.mono _ _ _ _
      | exact sackbutlaw03_awake.mono _
      | exact sackbutlaw03_gcd.mono _ _ _
      | exact LeO.none _
      | refine LeO.ite ?_ ?_
      | refine LeO.bind ?_ (fun _ => ?_)
    · intro y0 y1 y2 y3 y4 y5
      unfold sackbutlaw03_EvenSteps.l0
      repeat' first
      | (with_reducible exact ih0 _ _ _ _ _ _)
      | (with_reducible exact ih1 _ _ _ _ _)
      | (with_reducible exact ih2 _ _ _ _ _ _)
      | (with_reducible exact ih3 _ _ _ _ _ _ _ _ _ _)
      | (with_reducible exact even_Maker.mono _ _ _)
      | (with_reducible exact even_Spread.mono _ _ _ _)
      | (with_reducible exact sackbutlaw03_awake.mono _)
      | (with_reducible exact sackbutlaw03_gcd.mono _ _ _)
      | (with_reducible exact LeO.refl _)
      | (with_reducible exact LeO.none _)
      | (with_reducible refine LeO.ite ?_ ?_)
      | (with_reducible refine LeO.bind ?_ (fun _ => ?_))
      | exact ih0 _ _ _ _ _ _
      | exact ih1 _ _ _ _ _
      | exact ih2 _ _ _ _ _ _
      | exact ih3 _ _ _ _ _ _ _ _ _ _
      | exact even_Maker.mono _ _ _
      | exact even_Spread.mono _ _ _ _
      | exact sackbutlaw03_awake.mono _
      | exact sackbutlaw03_gcd.mono _ _ _
      | exact LeO.none _
      | refine LeO.ite ?_ ?_
      | refine LeO.bind ?_ (fun _ => ?_)
    · intro y0 y1 y2 y3 y4 y5 y6 y7 y8 y9
      unfold sackbutlaw03_EvenSteps.l1
      repeat' first
      | (with_reducible exact ih0 _ _ _ _ _ _)
      | (with_reducible exact ih1 _ _ _ _ _)
      | (with_reducible exact ih2 _ _ _ _ _ _)
      | (with_reducible exact ih3 _ _ _ _ _ _ _ _ _ _)
      | (with_reducible exact even_Maker.mono _ _ _)
      | (with_reducible exact even_Spread.mono _ _ _ _)
      | (with_reducible exact sackbutlaw03_awake.mono _)
      | (with_reducible exact sackbutlaw03_gcd.mono _ _ _)
      | (with_reducible exact LeO.refl _)
      | (with_reducible exact LeO.none _)
      | (with_reducible refine LeO.ite ?_ ?_)
      | (with_reducible refine LeO.bind ?_ (fun _ => ?_))
      | exact ih0 _ _ _ _ _ _
      | exact ih1 _ _ _ _ _
      | exact ih2 _ _ _ _ _ _
      | exact ih3 _ _ _ _ _ _ _ _ _ _
      | exact even_Maker.mono _ _ _
      | exact even_Spread.mono _ _ _ _
      | exact sackbutlaw03_awake.mono _
      | exact sackbutlaw03_gcd.mono _ _ _
      | exact LeO.none _
      | refine LeO.ite ?_ ?_
      | refine LeO.bind ?_ (fun _ => ?_)
theorem sackbutlaw03_EvenSteps.mono : ∀ a0 a1 a2 k, LeO (sackbutlaw03_EvenSteps.f k a0 a1 a2) (sackbutlaw03_EvenSteps.f (k + 1) a0 a1 a2) := by
  intro a0 a1 a2 k
  obtain ⟨ih0, ih1, ih2, ih3⟩ := sackbutlaw03_EvenSteps.mono_l k
  unfold sackbutlaw03_EvenSteps.f
  repeat' first
      | (with_reducible exact ih0 _ _ _ _ _ _)
      | (with_reducible exact ih1 _ _ _ _ _)
      | (with_reducible exact ih2 _ _ _ _ _ _)
      | (with_reducible exact ih3 _ _ _ _ _ _ _ _ _ _)
      | (with_reducible exact even_Maker.mono _ _ _)
      | (with_reducible exact even_Spread.mono _ _ _ _)
      | (with_reducible exact sackbutlaw03_awake.mono _)
      | (with_reducible exact sackbutlaw03_gcd.mono _ _ _)
      | (with_reducible exact LeO.refl _)
      | (with_reducible exact LeO.none _)
      | (with_reducible refine LeO.ite ?_ ?_)
      | (with_reducible refine LeO.bind ?_ (fun _ => ?_))
      | exact ih0 _ _ _ _ _ _
      | exact ih1 _ _ _ _ _
      | exact ih2 _ _ _ _ _ _
      | exact ih3 _ _ _ _ _ _ _ _ _ _
      | exact even_Maker.mono _ _ _
      | exact even_Spread.mono _ _ _ _
      | exact sackbutlaw03_awake.mono _
      | exact sackbutlaw03_gcd.mono _ _ _
      | exact LeO.none _
      | refine LeO.ite ?_ ?_
      | refine LeO.bind ?_ (fun _ => ?_)
set_option maxHeartbeats 8000000 in
set_option maxRecDepth 100000 in
theorem sackbutlaw03_EvenSteps.calls (k : Nat) (a0 : Int) (a1 : Int) (a2 : Int) (r : Bool) (w : World) (h : sackbutlaw03_EvenSteps.f k a0 a1 a2 = some r) :
    Calls Try.prog 4 #[.int .i64 a0, .int .i64 a1, .int .i64 a2] w fun e w' => e = .returned (.bool r) ∧ Below w.heap.size w w' := by
  have HB := Aside0.mk (Below.refl w.heap.size w)
  have H : ((even_Spread.f k a0 a1 0).bind fun bt150 => (if bt150.2 = 0 then ((sackbutref03_Part.f a0 a1).bind fun t152 => (sackbutlaw03_EvenSteps.j0 k a0 a1 a2 bt150.1 bt150.2 (!t152))) else (sackbutlaw03_EvenSteps.j0 k a0 a1 a2 bt150.1 bt150.2 true))) = some r := h
  clear h
  replace H := Option.bind_eq_some_iff.mp H
  obtain ⟨⟨t150, t151⟩, A40, H⟩ := H
  replace H : (if t151 = 0 then ((sackbutref03_Part.f a0 a1).bind fun t152 => (sackbutlaw03_EvenSteps.j0 k a0 a1 a2 t150 t151 (!t152))) else (sackbutlaw03_EvenSteps.j0 k a0 a1 a2 t150 t151 true)) = some r := H
  have A4 := Aside0.mk A40
  clear A40
  have HC5 := Aside0.mk H
  clear H
  go_enter Try.func4, Try.ntmps4
  go_upto_region 2 with (first | ((with_reducible refine gate_callee (f := 18) rfl ?_); refine goesL_ (some 16) rfl rfl Try.func18 (by kernel_rfl) rfl #[.int .i64 a0, .int .i64 a1, .int .i64 0] rfl (by (try simp only [List.map_toArray, List.map_cons, List.map_nil]); first | done | rfl | (simp only [List.length_drop, List.length_take]; rfl)) ?_; (with_reducible refine (even_Spread.calls k a0 a1 0 t150 t151 _ A4.out).mono ?_); rintro e w' ⟨rfl, ⟨nd, rfl⟩⟩; refine ⟨_, rfl, ?_⟩))
  (try simp only [Act.put, List.setIfInBounds_toArray, List.set_cons_zero, List.set_cons_succ])
  go_cut [26] (fun v26 wc => ∃ (kq : Nat) (x26_4 : Bool), v26 = .bool x26_4 ∧ Aside0 (sackbutlaw03_EvenSteps.j0 kq a0 a1 a2 t150 t151 x26_4 = some r) ∧ Aside0 (kq ≤ k) ∧ Aside0 (Below w.heap.size w wc))
  case first =>
    have H := HC5.out
    clear HC5
    by_cases c6 : t151 = 0
    · rw [if_pos c6] at H
      have c6b0 : (t151 == 0) = true := beq_iff_eq.mpr c6
      have c6b1 : (t151 != 0) = false := bne_eq_false_iff_eq.mpr c6
      clear c6
      (first | rw [c6b0] | (simp only [i64_w, i32_w]; rw [c6b0]) | skip)
      replace H := Option.bind_eq_some_iff.mp H
      obtain ⟨t152, A70, H⟩ := H
      replace H : (sackbutlaw03_EvenSteps.j0 k a0 a1 a2 t150 t151 (!t152)) = some r := H
      have A7 := Aside0.mk A70
      clear A70
      have H' := Aside0.mk H
      clear H
      go_wp2_with (first | (go_at_call 19; (with_reducible refine (sackbutref03_Part.calls a0 a1 t152 _ A7.out).mono ?_); rintro e w' ⟨rfl, ⟨nd, rfl⟩⟩))
      go_meet
      case rel => exact ⟨_, (!t152), (by first | rfl | (simp; done) | (simp [*]; done)), H', ⟨by first | omega | exact Nat.le_refl _⟩, ⟨by repeat (first | (with_reducible first | exact HB.out | apply below_alloc | apply pw_below_drewN | apply below_drew1) | exact HB.out)⟩⟩
    · rw [if_neg c6] at H
      have c6b0 : (t151 == 0) = false := beq_eq_false_iff_ne.mpr c6
      have c6b1 : (t151 != 0) = true := bne_iff_ne.mpr c6
      (first | rw [c6b0] | (simp only [i64_w, i32_w]; rw [c6b0]) | skip)
      have H' := Aside0.mk H
      clear H
      go_wp2
      go_meet
      case rel => exact ⟨_, (true), (by first | rfl | (simp; done) | (simp [*]; done)), H', ⟨by first | omega | exact Nat.le_refl _⟩, ⟨by repeat (first | (with_reducible first | exact HB.out | apply below_alloc | apply pw_below_drewN | apply below_drew1) | exact HB.out)⟩⟩
  case rest =>
    clear HC5
    try clear c1
    try clear p2
    try clear c4
    try clear c6
    try clear c6b0
    try clear c6b1
    obtain ⟨kq, x26_4, rfl, HA, HJ4, HB⟩ := hcut
    cases kq with
    | zero => exact absurd HA.out (by simp [sackbutlaw03_EvenSteps.j0])
    | succ kj4 =>
      have H := HA.out
      clear HA
      simp only [sackbutlaw03_EvenSteps.j0] at H
      by_cases c8 : x26_4 = true
      · subst c8
        have H1 : (if t151 = 2 then ((sackbutlaw03_awake.f kj4).bind fun t153 => (some t153)) else (some false)) = some r := by rw [if_pos rfl] at H; exact H
        clear H
        have H := H1
        clear H1
        by_cases c9 : t151 = 2
        · rw [if_pos c9] at H
          have c9b0 : (t151 == 2) = true := beq_iff_eq.mpr c9
          have c9b1 : (t151 != 2) = false := bne_eq_false_iff_eq.mpr c9
          clear c9
          replace H := Option.bind_eq_some_iff.mp H
          obtain ⟨t153, A100, H⟩ := H
          replace H : (some t153) = some r := H
          have A10 := Aside0.mk A100
          clear A100
          obtain rfl := Option.some.inj H
          go_wp2_with (first | (go_at_call 16; (with_reducible refine (sackbutlaw03_awake.calls kj4  t153 _ A10.out).mono ?_); rintro e w' ⟨rfl, ⟨nd, rfl⟩⟩))
          go_ret
          exact ⟨by first | rfl | (simp [errW_none, errW_some] <;> rfl) | (simp [*, errW_none, errW_some] <;> rfl), by repeat (first | (with_reducible first | exact HB.out | apply below_alloc | apply pw_below_drewN | apply below_drew1) | exact HB.out)⟩
        · rw [if_neg c9] at H
          have c9b0 : (t151 == 2) = false := beq_eq_false_iff_ne.mpr c9
          have c9b1 : (t151 != 2) = true := bne_iff_ne.mpr c9
          obtain rfl := Option.some.inj H
          go_wp2
          go_ret
          exact ⟨by first | rfl | (simp [errW_none, errW_some] <;> rfl) | (simp [*, errW_none, errW_some] <;> rfl), by repeat (first | (with_reducible first | exact HB.out | apply below_alloc | apply pw_below_drewN | apply below_drew1) | exact HB.out)⟩
      · replace c8 := Bool.eq_false_iff.mpr c8
        subst c8
        have H1 : (if (IntKind.u64.wrap (a0)) = 0 then (none) else ((sackbutlaw03_moved.f a0 t150 (wrap64 (Int.tmod (IntKind.u64.wrap (a2)) (IntKind.u64.wrap (a0))))).bind fun t154 => ((even_Maker.f kj4 a0 t154).bind fun bt155 => ((sackbutlaw03_gcd.f kj4 a0 a1).bind fun t157 => (if t157 = 1 then (if bt155.2 = 0 then (if bt155.1 < 1 then (sackbutlaw03_EvenSteps.j1 kj4 a0 a1 t154 bt155.1 true) else (if bt155.1 ≥ a0 then (sackbutlaw03_EvenSteps.j1 kj4 a0 a1 t154 bt155.1 true) else (if a1 ≥ 2 then (if a0 = 0 then (none) else (if (Int.tmod (wrap64 (a1 * bt155.1)) a0) = 1 then (sackbutlaw03_EvenSteps.j1 kj4 a0 a1 t154 bt155.1 false) else (sackbutlaw03_EvenSteps.j1 kj4 a0 a1 t154 bt155.1 ((Int.tmod (wrap64 (a1 * bt155.1)) a0) != (wrap64 (a0 - 1)))))) else (sackbutlaw03_EvenSteps.j1 kj4 a0 a1 t154 bt155.1 false)))) else (sackbutlaw03_EvenSteps.j1 kj4 a0 a1 t154 bt155.1 true)) else (if bt155.2 = 0 then ((sackbutlaw03_awake.f kj4).bind fun t158 => (some t158)) else (if bt155.2 = 4 then ((sackbutlaw03_awake.f kj4).bind fun t159 => (some t159)) else (some false)))))))) = some r := by rw [if_neg (show ¬ (false = true) by decide)] at H; exact H
        clear H
        have H := H1
        clear H1
        by_cases c11 : (IntKind.u64.wrap (a0)) = 0
        · rw [if_pos c11] at H
          exact absurd H (by simp)
        · rw [if_neg c11] at H
          have c11b0 : ((IntKind.u64.wrap (a0)) == 0) = false := beq_eq_false_iff_ne.mpr c11
          have c11b1 : ((IntKind.u64.wrap (a0)) != 0) = true := bne_iff_ne.mpr c11
          replace H := Option.bind_eq_some_iff.mp H
          obtain ⟨t154, A120, H⟩ := H
          replace H : ((even_Maker.f kj4 a0 t154).bind fun bt155 => ((sackbutlaw03_gcd.f kj4 a0 a1).bind fun t157 => (if t157 = 1 then (if bt155.2 = 0 then (if bt155.1 < 1 then (sackbutlaw03_EvenSteps.j1 kj4 a0 a1 t154 bt155.1 true) else (if bt155.1 ≥ a0 then (sackbutlaw03_EvenSteps.j1 kj4 a0 a1 t154 bt155.1 true) else (if a1 ≥ 2 then (if a0 = 0 then (none) else (if (Int.tmod (wrap64 (a1 * bt155.1)) a0) = 1 then (sackbutlaw03_EvenSteps.j1 kj4 a0 a1 t154 bt155.1 false) else (sackbutlaw03_EvenSteps.j1 kj4 a0 a1 t154 bt155.1 ((Int.tmod (wrap64 (a1 * bt155.1)) a0) != (wrap64 (a0 - 1)))))) else (sackbutlaw03_EvenSteps.j1 kj4 a0 a1 t154 bt155.1 false)))) else (sackbutlaw03_EvenSteps.j1 kj4 a0 a1 t154 bt155.1 true)) else (if bt155.2 = 0 then ((sackbutlaw03_awake.f kj4).bind fun t158 => (some t158)) else (if bt155.2 = 4 then ((sackbutlaw03_awake.f kj4).bind fun t159 => (some t159)) else (some false)))))) = some r := H
          have A12 := Aside0.mk A120
          clear A120
          replace H := Option.bind_eq_some_iff.mp H
          obtain ⟨⟨t155, t156⟩, A130, H⟩ := H
          replace H : ((sackbutlaw03_gcd.f kj4 a0 a1).bind fun t157 => (if t157 = 1 then (if t156 = 0 then (if t155 < 1 then (sackbutlaw03_EvenSteps.j1 kj4 a0 a1 t154 t155 true) else (if t155 ≥ a0 then (sackbutlaw03_EvenSteps.j1 kj4 a0 a1 t154 t155 true) else (if a1 ≥ 2 then (if a0 = 0 then (none) else (if (Int.tmod (wrap64 (a1 * t155)) a0) = 1 then (sackbutlaw03_EvenSteps.j1 kj4 a0 a1 t154 t155 false) else (sackbutlaw03_EvenSteps.j1 kj4 a0 a1 t154 t155 ((Int.tmod (wrap64 (a1 * t155)) a0) != (wrap64 (a0 - 1)))))) else (sackbutlaw03_EvenSteps.j1 kj4 a0 a1 t154 t155 false)))) else (sackbutlaw03_EvenSteps.j1 kj4 a0 a1 t154 t155 true)) else (if t156 = 0 then ((sackbutlaw03_awake.f kj4).bind fun t158 => (some t158)) else (if t156 = 4 then ((sackbutlaw03_awake.f kj4).bind fun t159 => (some t159)) else (some false))))) = some r := H
          have A13 := Aside0.mk A130
          clear A130
          replace H := Option.bind_eq_some_iff.mp H
          obtain ⟨t157, A140, H⟩ := H
          replace H : (if t157 = 1 then (if t156 = 0 then (if t155 < 1 then (sackbutlaw03_EvenSteps.j1 kj4 a0 a1 t154 t155 true) else (if t155 ≥ a0 then (sackbutlaw03_EvenSteps.j1 kj4 a0 a1 t154 t155 true) else (if a1 ≥ 2 then (if a0 = 0 then (none) else (if (Int.tmod (wrap64 (a1 * t155)) a0) = 1 then (sackbutlaw03_EvenSteps.j1 kj4 a0 a1 t154 t155 false) else (sackbutlaw03_EvenSteps.j1 kj4 a0 a1 t154 t155 ((Int.tmod (wrap64 (a1 * t155)) a0) != (wrap64 (a0 - 1)))))) else (sackbutlaw03_EvenSteps.j1 kj4 a0 a1 t154 t155 false)))) else (sackbutlaw03_EvenSteps.j1 kj4 a0 a1 t154 t155 true)) else (if t156 = 0 then ((sackbutlaw03_awake.f kj4).bind fun t158 => (some t158)) else (if t156 = 4 then ((sackbutlaw03_awake.f kj4).bind fun t159 => (some t159)) else (some false)))) = some r := H
          have A14 := Aside0.mk A140
          clear A140
          by_cases c15 : t157 = 1
          · rw [if_pos c15] at H
            have c15b0 : (t157 == 1) = true := beq_iff_eq.mpr c15
            have c15b1 : (t157 != 1) = false := bne_eq_false_iff_eq.mpr c15
            clear c15
            have HC16 := Aside0.mk H
            clear H
            go_upto_region 8 with (first | ((with_reducible refine gate_callee (f := 20) rfl ?_); refine goesL_ (some 40) rfl rfl Try.func20 (by kernel_rfl) rfl #[.int .i64 a0, .int .i64 t150, .int .i64 (wrap64 (Int.tmod (IntKind.u64.wrap (a2)) (IntKind.u64.wrap (a0))))] rfl (by (try simp only [List.map_toArray, List.map_cons, List.map_nil]); first | done | rfl | (simp only [List.length_drop, List.length_take]; rfl)) ?_; (with_reducible refine (sackbutlaw03_moved.calls a0 t150 (wrap64 (Int.tmod (IntKind.u64.wrap (a2)) (IntKind.u64.wrap (a0)))) t154 _ A12.out).mono ?_); rintro e w' ⟨rfl, ⟨nd, rfl⟩⟩; refine ⟨_, rfl, ?_⟩) | ((with_reducible refine gate_callee (f := 21) rfl ?_); refine goesL_ (some 44) rfl rfl Try.func21 (by kernel_rfl) rfl #[.int .i64 a0, .int .i64 t154] rfl (by (try simp only [List.map_toArray, List.map_cons, List.map_nil]); first | done | rfl | (simp only [List.length_drop, List.length_take]; rfl)) ?_; (with_reducible refine (even_Maker.calls kj4 a0 t154 t155 t156 _ A13.out).mono ?_); rintro e w17 ⟨rfl, hb⟩; refine ⟨_, rfl, ?_⟩; have n0_ := Aside0.mk (below_step (by repeat (first | (with_reducible first | exact HB.out | apply below_alloc | apply pw_below_drewN | apply below_drew1) | exact HB.out)) hb); clear HB; have HB := n0_; clear n0_; (try clear hb); (try clear hb2); (try clear hk); (try clear hi)) | ((with_reducible refine gate_callee (f := 22) rfl ?_); refine goesL_ (some 49) rfl rfl Try.func22 (by kernel_rfl) rfl #[.int .i64 a0, .int .i64 a1] rfl (by (try simp only [List.map_toArray, List.map_cons, List.map_nil]); first | done | rfl | (simp only [List.length_drop, List.length_take]; rfl)) ?_; (with_reducible refine (sackbutlaw03_gcd.calls kj4 a0 a1 t157 _ A14.out).mono ?_); rintro e w' ⟨rfl, ⟨nd, rfl⟩⟩; refine ⟨_, rfl, ?_⟩))
            (try simp only [Act.put, List.setIfInBounds_toArray, List.set_cons_zero, List.set_cons_succ])
            go_cut [92] (fun v92 wc => ∃ (kq : Nat) (x92_15 : Bool), v92 = .bool x92_15 ∧ Aside0 (sackbutlaw03_EvenSteps.j1 kq a0 a1 t154 t155 x92_15 = some r) ∧ Aside0 (kq ≤ kj4) ∧ Aside0 (Below w.heap.size w wc))
            case first =>
              have H := HC16.out
              clear HC16
              by_cases c18 : t156 = 0
              · rw [if_pos c18] at H
                have c18b0 : (t156 == 0) = true := beq_iff_eq.mpr c18
                have c18b1 : (t156 != 0) = false := bne_eq_false_iff_eq.mpr c18
                clear c18
                (first | rw [c18b0] | (simp only [i64_w, i32_w]; rw [c18b0]) | skip)
                by_cases c19 : t155 < 1
                · rw [if_pos c19] at H
                  have c19b0 : decide (t155 < 1) = true := decide_eq_true c19
                  clear c19
                  have H' := Aside0.mk H
                  clear H
                  go_wp2
                  go_meet
                  case rel => exact ⟨_, (true), (by first | rfl | (simp; done) | (simp [*]; done)), H', ⟨by have := HJ4.out; first | omega | exact Nat.le_refl _⟩, ⟨by repeat (first | (with_reducible first | exact HB.out | apply below_alloc | apply pw_below_drewN | apply below_drew1) | exact HB.out)⟩⟩
                · rw [if_neg c19] at H
                  have c19b0 : decide (t155 < 1) = false := decide_eq_false c19
                  clear c19
                  by_cases c20 : t155 ≥ a0
                  · rw [if_pos c20] at H
                    have c20b0 : decide (a0 ≤ t155) = true := decide_eq_true c20
                    clear c20
                    have H' := Aside0.mk H
                    clear H
                    go_wp2
                    go_meet
                    case rel => exact ⟨_, (true), (by first | rfl | (simp; done) | (simp [*]; done)), H', ⟨by have := HJ4.out; first | omega | exact Nat.le_refl _⟩, ⟨by repeat (first | (with_reducible first | exact HB.out | apply below_alloc | apply pw_below_drewN | apply below_drew1) | exact HB.out)⟩⟩
                  · rw [if_neg c20] at H
                    have c20b0 : decide (a0 ≤ t155) = false := decide_eq_false c20
                    clear c20
                    by_cases c21 : a1 ≥ 2
                    · rw [if_pos c21] at H
                      have c21b0 : decide (2 ≤ a1) = true := decide_eq_true c21
                      clear c21
                      by_cases c22 : a0 = 0
                      · rw [if_pos c22] at H
                        exact absurd H (by simp)
                      · rw [if_neg c22] at H
                        have c22b0 : (a0 == 0) = false := beq_eq_false_iff_ne.mpr c22
                        have c22b1 : (a0 != 0) = true := bne_iff_ne.mpr c22
                        by_cases c23 : (Int.tmod (wrap64 (a1 * t155)) a0) = 1
                        · rw [if_pos c23] at H
                          have c23b0 : ((Int.tmod (wrap64 (a1 * t155)) a0) == 1) = true := beq_iff_eq.mpr c23
                          have c23b1 : ((Int.tmod (wrap64 (a1 * t155)) a0) != 1) = false := bne_eq_false_iff_eq.mpr c23
                          clear c23
                          have H' := Aside0.mk H
                          clear H
                          go_wp2
                          go_meet
                          case rel => exact ⟨_, (false), (by first | rfl | (simp; done) | (simp [*]; done)), H', ⟨by have := HJ4.out; first | omega | exact Nat.le_refl _⟩, ⟨by repeat (first | (with_reducible first | exact HB.out | apply below_alloc | apply pw_below_drewN | apply below_drew1) | exact HB.out)⟩⟩
                        · rw [if_neg c23] at H
                          have c23b0 : ((Int.tmod (wrap64 (a1 * t155)) a0) == 1) = false := beq_eq_false_iff_ne.mpr c23
                          have c23b1 : ((Int.tmod (wrap64 (a1 * t155)) a0) != 1) = true := bne_iff_ne.mpr c23
                          have H' := Aside0.mk H
                          clear H
                          go_wp2
                          go_meet
                          case rel => exact ⟨_, (((Int.tmod (wrap64 (a1 * t155)) a0) != (wrap64 (a0 - 1)))), (by first | rfl | (simp; done) | (simp [*]; done)), H', ⟨by have := HJ4.out; first | omega | exact Nat.le_refl _⟩, ⟨by repeat (first | (with_reducible first | exact HB.out | apply below_alloc | apply pw_below_drewN | apply below_drew1) | exact HB.out)⟩⟩
                    · rw [if_neg c21] at H
                      have c21b0 : decide (2 ≤ a1) = false := decide_eq_false c21
                      clear c21
                      have H' := Aside0.mk H
                      clear H
                      go_wp2
                      go_meet
                      case rel => exact ⟨_, (false), (by first | rfl | (simp; done) | (simp [*]; done)), H', ⟨by have := HJ4.out; first | omega | exact Nat.le_refl _⟩, ⟨by repeat (first | (with_reducible first | exact HB.out | apply below_alloc | apply pw_below_drewN | apply below_drew1) | exact HB.out)⟩⟩
              · rw [if_neg c18] at H
                have c18b0 : (t156 == 0) = false := beq_eq_false_iff_ne.mpr c18
                have c18b1 : (t156 != 0) = true := bne_iff_ne.mpr c18
                (first | rw [c18b0] | (simp only [i64_w, i32_w]; rw [c18b0]) | skip)
                have H' := Aside0.mk H
                clear H
                go_wp2
                go_meet
                case rel => exact ⟨_, (true), (by first | rfl | (simp; done) | (simp [*]; done)), H', ⟨by have := HJ4.out; first | omega | exact Nat.le_refl _⟩, ⟨by repeat (first | (with_reducible first | exact HB.out | apply below_alloc | apply pw_below_drewN | apply below_drew1) | exact HB.out)⟩⟩
            case rest =>
              clear HC16
              try clear c1
              try clear c2
              try clear p2
              try clear c4
              try clear c6
              try clear c6b0
              try clear c6b1
              try clear p6
              try clear c8
              try clear c9
              try clear c9b0
              try clear c9b1
              try clear c11
              try clear c11b0
              try clear c11b1
              try clear c15
              try clear c15b0
              try clear c15b1
              try clear c18
              try clear c18b0
              try clear c18b1
              try clear c19
              try clear c19b0
              try clear c20
              try clear c20b0
              try clear c21
              try clear c21b0
              try clear c22
              try clear c22b0
              try clear c22b1
              try clear c23
              try clear c23b0
              try clear c23b1
              try clear p2
              obtain ⟨kq, x92_15, rfl, HA, HJ15, HB⟩ := hcut
              cases kq with
              | zero => exact absurd HA.out (by simp [sackbutlaw03_EvenSteps.j1])
              | succ kj15 =>
                have H := HA.out
                clear HA
                simp only [sackbutlaw03_EvenSteps.j1] at H
                by_cases c24 : x92_15 = true
                · subst c24
                  have H1 : (some false) = some r := by rw [if_pos rfl] at H; exact H
                  clear H
                  have H := H1
                  clear H1
                  obtain rfl := Option.some.inj H
                  go_wp2
                  go_ret
                  exact ⟨by first | rfl | (simp [errW_none, errW_some] <;> rfl) | (simp [*, errW_none, errW_some] <;> rfl), by repeat (first | (with_reducible first | exact HB.out | apply below_alloc | apply pw_below_drewN | apply below_drew1) | exact HB.out)⟩
                · replace c24 := Bool.eq_false_iff.mpr c24
                  subst c24
                  have H1 : (sackbutlaw03_EvenSteps.l0 kj15 a0 a1 t154 t155 a0 0) = some r := by rw [if_neg (show ¬ (false = true) by decide)] at H; exact H
                  clear H
                  have H := H1
                  clear H1
                  have H' := Aside0.mk H
                  clear H
                  go_wp2
                  go_loopg [94] kj15 (fun kq v94 w' => ∃ (x94_3 : Int), v94 = .int .i64 x94_3 ∧ Aside0 (sackbutlaw03_EvenSteps.l0 kq a0 a1 t154 t155 a0 x94_3 = some r) ∧ Aside0 (kq ≤ kj15) ∧ Aside0 (Below w.heap.size w w'))
                  case atStart => exact ⟨(0), (by first | rfl | (simp; done) | (simp [*]; done)), H', ⟨Nat.le_refl _⟩, ⟨by repeat (first | (with_reducible first | exact HB.out | apply below_alloc | apply pw_below_drewN | apply below_drew1) | exact HB.out)⟩⟩
                  case round =>
                    clear H'
                    try clear c1
                    try clear c2
                    try clear p2
                    try clear c4
                    try clear c6
                    try clear c6b0
                    try clear c6b1
                    try clear p6
                    try clear c8
                    try clear c9
                    try clear c9b0
                    try clear c9b1
                    try clear c11
                    try clear c11b0
                    try clear c11b1
                    try clear c15
                    try clear c15b0
                    try clear c15b1
                    try clear c18
                    try clear c18b0
                    try clear c18b1
                    try clear c19
                    try clear c19b0
                    try clear c20
                    try clear c20b0
                    try clear c21
                    try clear c21b0
                    try clear c22
                    try clear c22b0
                    try clear c22b1
                    try clear c23
                    try clear c23b0
                    try clear c23b1
                    try clear c24
                    try clear p2
                    try clear p6
                    obtain ⟨x94_3, rfl, HA, HK3, HB⟩ := hrel
                    cases gk with
                    | zero => exact absurd HA.out (by simp [sackbutlaw03_EvenSteps.l0])
                    | succ k3 =>
                      have H := HA.out
                      clear HA
                      simp only [sackbutlaw03_EvenSteps.l0] at H
                      by_cases c25 : x94_3 < a0
                      · rw [if_pos c25] at H
                        have c25b0 : decide (x94_3 < a0) = true := decide_eq_true c25
                        clear c25
                        have H' := Aside0.mk H
                        clear H
                        go_wp2
                        go_loopg [11, 98] k3 (fun kq v11 v98 w' => ∃ (x11_4 : Int) (x98_4 : Int), v11 = .int .i64 x11_4 ∧ v98 = .int .i64 x98_4 ∧ Aside0 (sackbutlaw03_EvenSteps.l1 kq a0 a1 t154 t155 x94_3 x11_4 a0 x94_3 a1 x98_4 = some r) ∧ Aside0 (kq ≤ k3) ∧ Aside0 (Below w.heap.size w w'))
                        case atStart => exact ⟨(0), (0), (by first | rfl | (simp; done) | (simp [*]; done)), (by first | rfl | (simp; done) | (simp [*]; done)), H', ⟨Nat.le_refl _⟩, ⟨by repeat (first | (with_reducible first | exact HB.out | apply below_alloc | apply pw_below_drewN | apply below_drew1) | exact HB.out)⟩⟩
                        case round =>
                          clear H'
                          try clear c1
                          try clear c2
                          try clear p2
                          try clear c4
                          try clear c6
                          try clear c6b0
                          try clear c6b1
                          try clear p6
                          try clear c8
                          try clear c9
                          try clear c9b0
                          try clear c9b1
                          try clear c11
                          try clear c11b0
                          try clear c11b1
                          try clear c15
                          try clear c15b0
                          try clear c15b1
                          try clear c18
                          try clear c18b0
                          try clear c18b1
                          try clear c19
                          try clear c19b0
                          try clear c20
                          try clear c20b0
                          try clear c21
                          try clear c21b0
                          try clear c22
                          try clear c22b0
                          try clear c22b1
                          try clear c23
                          try clear c23b0
                          try clear c23b1
                          try clear c24
                          try clear c25
                          try clear c25b0
                          try clear p2
                          try clear p6
                          obtain ⟨x11_4, x98_4, rfl, rfl, HA, HK4, HB⟩ := hrel
                          cases gk with
                          | zero => exact absurd HA.out (by simp [sackbutlaw03_EvenSteps.l1])
                          | succ k4 =>
                            have H := HA.out
                            clear HA
                            simp only [sackbutlaw03_EvenSteps.l1] at H
                            by_cases c26 : x98_4 < a1
                            · rw [if_pos c26] at H
                              have c26b0 : decide (x98_4 < a1) = true := decide_eq_true c26
                              clear c26
                              by_cases c27 : a0 = 0
                              · rw [if_pos c27] at H
                                exact absurd H (by simp)
                              · rw [if_neg c27] at H
                                have c27b0 : (a0 == 0) = false := beq_eq_false_iff_ne.mpr c27
                                have c27b1 : (a0 != 0) = true := bne_iff_ne.mpr c27
                                obtain ⟨ji28, hji28⟩ : ∃ j_ : Int, (Int.tmod (wrap64 (x94_3 + (wrap64 (x98_4 * t155)))) a0) = j_ := ⟨_, rfl⟩
                                replace H : (if 0 ≤ (ji28) then (sackbutlaw03_EvenSteps.l1 k4 a0 a1 t154 t155 x94_3 (Go.bits .or .i64 x11_4 (shl .i64 1 (ji28))) a0 x94_3 a1 (wrap64 (x98_4 + 1))) else (none)) = some r := by first | (rw [hji28] at H; exact H) | (simp only [hji28] at H ⊢; exact H)
                                by_cases c29 : 0 ≤ (ji28)
                                · rw [if_pos c29] at H
                                  have c29b0 := eq_true c29
                                  have c29b1 : decide (0 ≤ (ji28)) = true := decide_eq_true c29
                                  clear c29
                                  obtain ⟨ji30, hji30⟩ : ∃ j_ : Int, (shl .i64 1 (ji28)) = j_ := ⟨_, rfl⟩
                                  replace H : (sackbutlaw03_EvenSteps.l1 k4 a0 a1 t154 t155 x94_3 (Go.bits .or .i64 x11_4 (ji30)) a0 x94_3 a1 (wrap64 (x98_4 + 1))) = some r := by first | (rw [hji30] at H; exact H) | (simp only [hji30] at H ⊢; exact H)
                                  have hji30_ : (IntKind.i64.wrap (1 * 2 ^ min (ji28).toNat 64)) = ji30 := hji30
                                  have hji30z : (ji28) ≤ 64 → (IntKind.i64.wrap (1 * 2 ^ (ji28).toNat)) = ji30 := shl_small hji30
                                  have hji30u : (IntKind.i64.wrap (2 ^ min (ji28).toNat 64)) = ji30 := by have h_ := hji30_; rw [Int.one_mul] at h_; exact h_
                                  have hji30v : (ji28) ≤ 64 → (IntKind.i64.wrap (2 ^ (ji28).toNat)) = ji30 := fun hle_ => by have h_ := hji30z hle_; rw [Int.one_mul] at h_; exact h_
                                  have hji30y : (wrap64 (1 * 2 ^ min (ji28).toNat 64)) = ji30 := (i64_w _).symm.trans hji30_
                                  have hji30x : (ji28) ≤ 64 → (wrap64 (1 * 2 ^ (ji28).toNat)) = ji30 := fun h_ => (i64_w _).symm.trans (hji30z h_)
                                  have H' := Aside0.mk H
                                  clear H
                                  go_wp2
                                  go_roundg k4
                                  case measure => have := HJ4.out; have := HJ15.out; have := HK3.out; have := HK4.out; omega
                                  case rel => exact ⟨(Go.bits .or .i64 x11_4 (ji30)), (wrap64 (x98_4 + 1)), (by first | rfl | (simp; done) | (simp only [← hji30] <;> (first | rfl | simp)) | (simp [*]; done)), (by first | rfl | (simp; done) | (simp [*]; done)), H', ⟨by have := HJ4.out; have := HJ15.out; have := HK3.out; have := HK4.out; omega⟩, ⟨by repeat (first | (with_reducible first | exact HB.out | apply below_alloc | apply pw_below_drewN | apply below_drew1) | exact HB.out)⟩⟩
                                · rw [if_neg c29] at H
                                  exact absurd H (by simp)
                            · rw [if_neg c26] at H
                              have c26b0 : decide (x98_4 < a1) = false := decide_eq_false c26
                              clear c26
                              by_cases c31 : x11_4 = t154
                              · rw [if_pos c31] at H
                                have c31b0 : (x11_4 == t154) = true := beq_iff_eq.mpr c31
                                have c31b1 : (x11_4 != t154) = false := bne_eq_false_iff_eq.mpr c31
                                clear c31
                                replace H := Option.bind_eq_some_iff.mp H
                                obtain ⟨t160, A320, H⟩ := H
                                replace H : (some t160) = some r := H
                                have A32 := Aside0.mk A320
                                clear A320
                                obtain rfl := Option.some.inj H
                                go_wp2_with (first | ((with_reducible refine gate_callee (f := 16) rfl ?_); refine goesL_ (some 115) rfl rfl Try.func16 (by kernel_rfl) rfl #[] rfl (by (try simp only [List.map_toArray, List.map_cons, List.map_nil]); first | done | rfl | (simp only [List.length_drop, List.length_take]; rfl)) ?_; (with_reducible refine (sackbutlaw03_awake.calls k4  t160 _ A32.out).mono ?_); rintro e w' ⟨rfl, ⟨nd, rfl⟩⟩; refine ⟨_, rfl, ?_⟩))
                                go_ret
                                exact ⟨by first | rfl | (simp [errW_none, errW_some] <;> rfl) | (simp [*, errW_none, errW_some] <;> rfl), by repeat (first | (with_reducible first | exact HB.out | apply below_alloc | apply pw_below_drewN | apply below_drew1) | exact HB.out)⟩
                              · rw [if_neg c31] at H
                                have c31b0 : (x11_4 == t154) = false := beq_eq_false_iff_ne.mpr c31
                                have c31b1 : (x11_4 != t154) = true := bne_iff_ne.mpr c31
                                have H' := Aside0.mk H
                                clear H
                                go_wp2
                                go_roundg k4
                                case measure => have := HJ4.out; have := HJ15.out; have := HK3.out; have := HK4.out; omega
                                case rel => exact ⟨(wrap64 (x94_3 + 1)), (by first | rfl | (simp; done) | (simp [*]; done)), H', ⟨by have := HJ4.out; have := HJ15.out; have := HK3.out; have := HK4.out; omega⟩, ⟨by repeat (first | (with_reducible first | exact HB.out | apply below_alloc | apply pw_below_drewN | apply below_drew1) | exact HB.out)⟩⟩
                      · rw [if_neg c25] at H
                        have c25b0 : decide (x94_3 < a0) = false := decide_eq_false c25
                        clear c25
                        obtain rfl := Option.some.inj H
                        go_wp2
                        go_ret
                        exact ⟨by first | rfl | (simp [errW_none, errW_some] <;> rfl) | (simp [*, errW_none, errW_some] <;> rfl), by repeat (first | (with_reducible first | exact HB.out | apply below_alloc | apply pw_below_drewN | apply below_drew1) | exact HB.out)⟩
          · rw [if_neg c15] at H
            have c15b0 : (t157 == 1) = false := beq_eq_false_iff_ne.mpr c15
            have c15b1 : (t157 != 1) = true := bne_iff_ne.mpr c15
            by_cases c33 : t156 = 0
            · rw [if_pos c33] at H
              have c33b0 : (t156 == 0) = true := beq_iff_eq.mpr c33
              have c33b1 : (t156 != 0) = false := bne_eq_false_iff_eq.mpr c33
              clear c33
              replace H := Option.bind_eq_some_iff.mp H
              obtain ⟨t158, A340, H⟩ := H
              replace H : (some t158) = some r := H
              have A34 := Aside0.mk A340
              clear A340
              obtain rfl := Option.some.inj H
              go_wp2_with (first | ((with_reducible refine gate_callee (f := 20) rfl ?_); refine goesL_ (some 40) rfl rfl Try.func20 (by kernel_rfl) rfl #[.int .i64 a0, .int .i64 t150, .int .i64 (wrap64 (Int.tmod (IntKind.u64.wrap (a2)) (IntKind.u64.wrap (a0))))] rfl (by (try simp only [List.map_toArray, List.map_cons, List.map_nil]); first | done | rfl | (simp only [List.length_drop, List.length_take]; rfl)) ?_; (with_reducible refine (sackbutlaw03_moved.calls a0 t150 (wrap64 (Int.tmod (IntKind.u64.wrap (a2)) (IntKind.u64.wrap (a0)))) t154 _ A12.out).mono ?_); rintro e w' ⟨rfl, ⟨nd, rfl⟩⟩; refine ⟨_, rfl, ?_⟩) | ((with_reducible refine gate_callee (f := 21) rfl ?_); refine goesL_ (some 44) rfl rfl Try.func21 (by kernel_rfl) rfl #[.int .i64 a0, .int .i64 t154] rfl (by (try simp only [List.map_toArray, List.map_cons, List.map_nil]); first | done | rfl | (simp only [List.length_drop, List.length_take]; rfl)) ?_; (with_reducible refine (even_Maker.calls kj4 a0 t154 t155 t156 _ A13.out).mono ?_); rintro e w35 ⟨rfl, hb⟩; refine ⟨_, rfl, ?_⟩; have n0_ := Aside0.mk (below_step (by repeat (first | (with_reducible first | exact HB.out | apply below_alloc | apply pw_below_drewN | apply below_drew1) | exact HB.out)) hb); clear HB; have HB := n0_; clear n0_; (try clear hb); (try clear hb2); (try clear hk); (try clear hi)) | ((with_reducible refine gate_callee (f := 22) rfl ?_); refine goesL_ (some 49) rfl rfl Try.func22 (by kernel_rfl) rfl #[.int .i64 a0, .int .i64 a1] rfl (by (try simp only [List.map_toArray, List.map_cons, List.map_nil]); first | done | rfl | (simp only [List.length_drop, List.length_take]; rfl)) ?_; (with_reducible refine (sackbutlaw03_gcd.calls kj4 a0 a1 t157 _ A14.out).mono ?_); rintro e w' ⟨rfl, ⟨nd, rfl⟩⟩; refine ⟨_, rfl, ?_⟩) | (go_at_call 16; (with_reducible refine (sackbutlaw03_awake.calls kj4  t158 _ A34.out).mono ?_); rintro e w' ⟨rfl, ⟨nd, rfl⟩⟩))
              go_ret
              exact ⟨by first | rfl | (simp [errW_none, errW_some] <;> rfl) | (simp [*, errW_none, errW_some] <;> rfl), by repeat (first | (with_reducible first | exact HB.out | apply below_alloc | apply pw_below_drewN | apply below_drew1) | exact HB.out)⟩
            · rw [if_neg c33] at H
              have c33b0 : (t156 == 0) = false := beq_eq_false_iff_ne.mpr c33
              have c33b1 : (t156 != 0) = true := bne_iff_ne.mpr c33
              by_cases c36 : t156 = 4
              · rw [if_pos c36] at H
                have c36b0 : (t156 == 4) = true := beq_iff_eq.mpr c36
                have c36b1 : (t156 != 4) = false := bne_eq_false_iff_eq.mpr c36
                clear c36
                replace H := Option.bind_eq_some_iff.mp H
                obtain ⟨t159, A370, H⟩ := H
                replace H : (some t159) = some r := H
                have A37 := Aside0.mk A370
                clear A370
                obtain rfl := Option.some.inj H
                go_wp2_with (first | ((with_reducible refine gate_callee (f := 20) rfl ?_); refine goesL_ (some 40) rfl rfl Try.func20 (by kernel_rfl) rfl #[.int .i64 a0, .int .i64 t150, .int .i64 (wrap64 (Int.tmod (IntKind.u64.wrap (a2)) (IntKind.u64.wrap (a0))))] rfl (by (try simp only [List.map_toArray, List.map_cons, List.map_nil]); first | done | rfl | (simp only [List.length_drop, List.length_take]; rfl)) ?_; (with_reducible refine (sackbutlaw03_moved.calls a0 t150 (wrap64 (Int.tmod (IntKind.u64.wrap (a2)) (IntKind.u64.wrap (a0)))) t154 _ A12.out).mono ?_); rintro e w' ⟨rfl, ⟨nd, rfl⟩⟩; refine ⟨_, rfl, ?_⟩) | ((with_reducible refine gate_callee (f := 21) rfl ?_); refine goesL_ (some 44) rfl rfl Try.func21 (by kernel_rfl) rfl #[.int .i64 a0, .int .i64 t154] rfl (by (try simp only [List.map_toArray, List.map_cons, List.map_nil]); first | done | rfl | (simp only [List.length_drop, List.length_take]; rfl)) ?_; (with_reducible refine (even_Maker.calls kj4 a0 t154 t155 t156 _ A13.out).mono ?_); rintro e w38 ⟨rfl, hb⟩; refine ⟨_, rfl, ?_⟩; have n0_ := Aside0.mk (below_step (by repeat (first | (with_reducible first | exact HB.out | apply below_alloc | apply pw_below_drewN | apply below_drew1) | exact HB.out)) hb); clear HB; have HB := n0_; clear n0_; (try clear hb); (try clear hb2); (try clear hk); (try clear hi)) | ((with_reducible refine gate_callee (f := 22) rfl ?_); refine goesL_ (some 49) rfl rfl Try.func22 (by kernel_rfl) rfl #[.int .i64 a0, .int .i64 a1] rfl (by (try simp only [List.map_toArray, List.map_cons, List.map_nil]); first | done | rfl | (simp only [List.length_drop, List.length_take]; rfl)) ?_; (with_reducible refine (sackbutlaw03_gcd.calls kj4 a0 a1 t157 _ A14.out).mono ?_); rintro e w' ⟨rfl, ⟨nd, rfl⟩⟩; refine ⟨_, rfl, ?_⟩) | (go_at_call 16; (with_reducible refine (sackbutlaw03_awake.calls kj4  t159 _ A37.out).mono ?_); rintro e w' ⟨rfl, ⟨nd, rfl⟩⟩))
                go_ret
                exact ⟨by first | rfl | (simp [errW_none, errW_some] <;> rfl) | (simp [*, errW_none, errW_some] <;> rfl), by repeat (first | (with_reducible first | exact HB.out | apply below_alloc | apply pw_below_drewN | apply below_drew1) | exact HB.out)⟩
              · rw [if_neg c36] at H
                have c36b0 : (t156 == 4) = false := beq_eq_false_iff_ne.mpr c36
                have c36b1 : (t156 != 4) = true := bne_iff_ne.mpr c36
                obtain rfl := Option.some.inj H
                go_wp2_with (first | ((with_reducible refine gate_callee (f := 20) rfl ?_); refine goesL_ (some 40) rfl rfl Try.func20 (by kernel_rfl) rfl #[.int .i64 a0, .int .i64 t150, .int .i64 (wrap64 (Int.tmod (IntKind.u64.wrap (a2)) (IntKind.u64.wrap (a0))))] rfl (by (try simp only [List.map_toArray, List.map_cons, List.map_nil]); first | done | rfl | (simp only [List.length_drop, List.length_take]; rfl)) ?_; (with_reducible refine (sackbutlaw03_moved.calls a0 t150 (wrap64 (Int.tmod (IntKind.u64.wrap (a2)) (IntKind.u64.wrap (a0)))) t154 _ A12.out).mono ?_); rintro e w' ⟨rfl, ⟨nd, rfl⟩⟩; refine ⟨_, rfl, ?_⟩) | ((with_reducible refine gate_callee (f := 21) rfl ?_); refine goesL_ (some 44) rfl rfl Try.func21 (by kernel_rfl) rfl #[.int .i64 a0, .int .i64 t154] rfl (by (try simp only [List.map_toArray, List.map_cons, List.map_nil]); first | done | rfl | (simp only [List.length_drop, List.length_take]; rfl)) ?_; (with_reducible refine (even_Maker.calls kj4 a0 t154 t155 t156 _ A13.out).mono ?_); rintro e w39 ⟨rfl, hb⟩; refine ⟨_, rfl, ?_⟩; have n0_ := Aside0.mk (below_step (by repeat (first | (with_reducible first | exact HB.out | apply below_alloc | apply pw_below_drewN | apply below_drew1) | exact HB.out)) hb); clear HB; have HB := n0_; clear n0_; (try clear hb); (try clear hb2); (try clear hk); (try clear hi)) | ((with_reducible refine gate_callee (f := 22) rfl ?_); refine goesL_ (some 49) rfl rfl Try.func22 (by kernel_rfl) rfl #[.int .i64 a0, .int .i64 a1] rfl (by (try simp only [List.map_toArray, List.map_cons, List.map_nil]); first | done | rfl | (simp only [List.length_drop, List.length_take]; rfl)) ?_; (with_reducible refine (sackbutlaw03_gcd.calls kj4 a0 a1 t157 _ A14.out).mono ?_); rintro e w' ⟨rfl, ⟨nd, rfl⟩⟩; refine ⟨_, rfl, ?_⟩))
                go_ret
                exact ⟨by first | rfl | (simp [errW_none, errW_some] <;> rfl) | (simp [*, errW_none, errW_some] <;> rfl), by repeat (first | (with_reducible first | exact HB.out | apply below_alloc | apply pw_below_drewN | apply below_drew1) | exact HB.out)⟩

/-- THE ONE PURE STATEMENT of sackbutlaw03_EvenSteps: yours. -/
def sackbutlaw03_EvenSteps.Pure : Prop := ∀ (a0 : Int) (a1 : Int) (a2 : Int), (Lit.int .i64 a0).wf = true → (Lit.int .i64 a1).wf = true → (Lit.int .i64 a2).wf = true → ∃ k, sackbutlaw03_EvenSteps.f k a0 a1 a2 = some true
theorem sackbutlaw03_EvenSteps.walk (P : sackbutlaw03_EvenSteps.Pure) (a0 : Int) (a1 : Int) (a2 : Int) (w : World) (w0 : (Lit.int .i64 a0).wf = true) (w1 : (Lit.int .i64 a1).wf = true) (w2 : (Lit.int .i64 a2).wf = true) :
    Calls Try.prog 4 #[.int .i64 a0, .int .i64 a1, .int .i64 a2] w fun e w' => e = .returned (.bool true) ∧ Below w.heap.size w w' := by
  obtain ⟨k, h⟩ := P a0 a1 a2 w0 w1 w2
  refine (sackbutlaw03_EvenSteps.calls k a0 a1 a2 true w h).mono ?_
  rintro e w' ⟨rfl, hd⟩
  exact ⟨rfl, hd⟩

-- NOT PRINTED: function 62 (even_group_62)

-- NOT PRINTED: function 49 (even_group_49)

-- NOT PRINTED: function 63 (even_group_int_63)

-- NOT PRINTED: function 50 (even_group_int_50)

-- NOT PRINTED: function 23 (even_Strokes)

end Go.Proofs.Ythbcdmbicfmeaaa.P
