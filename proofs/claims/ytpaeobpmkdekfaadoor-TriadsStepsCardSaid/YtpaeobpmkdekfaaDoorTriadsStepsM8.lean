/- Texts that the proof of TriadsSteps needs, put together in build order by this session's program (wip/tools/claimtrim.py). -/
import Derived.Test.YtpaeobpmkdekfaaDoorTriadsStepsM7
section
namespace Go.Proofs.YtpaeobpmkdekfaaDoor.P
open Go.RowKit Go.Proofs.YtpaeobpmkdekfaaDoorW.PrintWords Go.Proofs.YtpaeobpmkdekfaaDoorW.PrintLast Go.Proofs.YtpaeobpmkdekfaaDoorW.PrintMore
attribute [local go_sem] max2_int min2_int max_two min_two max_three min_three max_four min_four   -- for this text's walks alone
set_option linter.unusedVariables false
set_option linter.unusedSimpArgs false
def triads_Tones.f (k : Nat) (a0_0 : Int) (a0_1 : Int) (a0_2 : Int) (a1 : Int) : Option (Int × Int) := (triads_Kind_isTriad.f a0_0 a0_1 a0_2 (([a1] : List Int))).bind fun t182 => (if t182 = true then ((triads_Kind_tones.f k a0_0 a0_1 a0_2 a1).bind fun t183 => (some (t183, 0))) else (some (0, 2)))
set_option maxHeartbeats 8000000 in
set_option maxRecDepth 100000 in
theorem triads_Tones.calls (k : Nat) (a0_0 : Int) (a0_1 : Int) (a0_2 : Int) (a1 : Int) (r1 : Int) (r2 : Int) (w : World) (h : triads_Tones.f k a0_0 a0_1 a0_2 a1 = some (r1, r2)) :
    Calls Tryd.prog 25 #[.agg #[.int .i64 a0_0, .int .i64 a0_1, .int .i64 a0_2], .int .i64 a1] w fun e w' => e = .returned (.tuple #[.int .i64 r1, .int .i64 r2]) ∧ Below w.heap.size w w' := by
  have hu27 := Tryd.underlying27
  have HB := Aside0.mk (Below.refl w.heap.size w)
  have H : ((triads_Kind_isTriad.f a0_0 a0_1 a0_2 (([a1] : List Int))).bind fun t182 => (if t182 = true then ((triads_Kind_tones.f k a0_0 a0_1 a0_2 a1).bind fun t183 => (some (t183, 0))) else (some (0, 2)))) = some (r1, r2) := h
  clear h
  obtain ⟨y179, hy179⟩ : ∃ y_ : List Int, y_ = (([a1] : List Int)) := ⟨_, rfl⟩
  replace H : ((triads_Kind_isTriad.f a0_0 a0_1 a0_2 y179).bind fun t182 => (if t182 = true then ((triads_Kind_tones.f k a0_0 a0_1 a0_2 a1).bind fun t183 => (some (t183, 0))) else (some (0, 2)))) = some (r1, r2) := by first | (rw [hy179]; with_reducible exact H) | (have H2_ := (Option.bind_some _ _).symm.trans H; rw [hy179]; with_reducible exact H2_) | (have H2_ := (Option.bind_some _ _).symm.trans H; with_reducible exact H2_) | with_reducible exact H | (rw [hy179]; exact H) | exact H
  have Ny179 := Aside0.mk hy179
  clear hy179
  replace H := Option.bind_eq_some_iff.mp H
  obtain ⟨t182, A30, H⟩ := H
  replace H : (if t182 = true then ((triads_Kind_tones.f k a0_0 a0_1 a0_2 a1).bind fun t183 => (some (t183, 0))) else (some (0, 2))) = some (r1, r2) := H
  have A3 := Aside0.mk A30
  clear A30
  by_cases c4 : t182 = true
  · subst c4
    have H1 : ((triads_Kind_tones.f k a0_0 a0_1 a0_2 a1).bind fun t183 => (some (t183, 0))) = some (r1, r2) := by rw [if_pos rfl] at H; exact H
    clear H
    have H := H1
    clear H1
    replace H := Option.bind_eq_some_iff.mp H
    obtain ⟨t183, A50, H⟩ := H
    replace H : (some (t183, 0)) = some (r1, r2) := H
    have A5 := Aside0.mk A50
    clear A50
    simp only [Option.some.injEq, Prod.mk.injEq] at H
    obtain ⟨rfl, rfl⟩ := H
    go_enter Tryd.func25, Tryd.ntmps25
    go_wp2_with (first | ((with_reducible refine gate_dst (N := 2) rfl ?_); refine box_event ?hg (N := 2) ?hd (cs := #[.int .i64 a0_0, .int .i64 a0_1, .int .i64 a0_2]) (t := 27) ?hr ?_; (case hd => rfl); (case hg => rfl); (case hr => first | (go_simp; done) | (go_simp; rfl)); intro gb178 hg w6 hbox hb; have n0_ := Aside0.mk (below_step (by repeat (first | (with_reducible first | exact HB.out | apply below_alloc | apply pw_below_drewN | apply below_drew1) | exact HB.out)) hb); have n1_ := Aside0.mk (hbox); have n2_ := Aside0.mk ((by rw [hg]; exact (below_size (by repeat (first | (with_reducible first | exact HB.out | apply below_alloc | apply pw_below_drewN | apply below_drew1) | exact HB.out))) : w.heap.size ≤ gb178)); have n3_ := Aside0.mk ((by rw [hg]; exact (below_size (by repeat (first | (with_reducible first | exact HB.out | apply below_alloc | apply pw_below_drewN | apply below_drew1) | exact HB.out))) : w.heap.size ≤ gb178)); clear HB; have HB := n0_; have BK178 := n1_; have GW178 := n2_; have GE178 := n3_; clear n0_ n1_ n2_ n3_; clear hb hbox hg; have hcz7_0 : w6.cell? ⟨gb178, 0, none⟩ = some (.int .i64 a0_0) := (blk_cell BK178.out 0).trans rfl; have hcz7_1 : w6.cell? ⟨gb178, 1, none⟩ = some (.int .i64 a0_1) := (blk_cell BK178.out 1).trans rfl; have hcz7_2 : w6.cell? ⟨gb178, 2, none⟩ = some (.int .i64 a0_2) := (blk_cell BK178.out 2).trans rfl; have hfz7_0 := blk_frozen BK178.out 0; have hfz7_1 := blk_frozen BK178.out 1; have hfz7_2 := blk_frozen BK178.out 2) | ((with_reducible refine gate_dst (N := 8) rfl ?_); refine Kd.R_lit (Kd.int .i64) _ 3 ?hg (N := 8) ?hd (xs := ([a1] : List Int)) (inner := [.int .i64 a1]) (ok := fun _ => True) (okp := fun _ => True) ?hr ?hp (fun _ hk => hk) trivial (Below.refl _ _) (Nat.le_refl _) (by simp) ?_; (case hd => rfl); (case hg => rfl); (case hr => first | (go_simp; done) | (go_simp; rfl)); (case hp => exact (Reps.one (show Kd.M (Kd.int .i64) _ _ _ a1 [.int .i64 a1] from rfl) (Reps.none _ _))); intro v180 w8 ho9 hb hg_ hnew_; clear hg_ hnew_; (first | rw [← Ny179.out] at ho9 | (simp only [Int.reduceToNat] at ho9; rw [← Ny179.out] at ho9)); have n0_ := Aside0.mk (Kd.R_lower ho9 (below_size (by repeat (first | (with_reducible first | exact HB.out | apply below_alloc | apply pw_below_drewN | apply below_drew1 | refine below_set ?_ GE178.out) | exact HB.out)))); have n1_ := Aside0.mk (blk_below (g := gb178) (o := .cells #[.int .i64 a0_0, .int .i64 a0_1, .int .i64 a0_2] 27 (0, 0)) (by (with_reducible repeat (first | refine blk_drewN ?_ _ | refine blk_drew ?_ | refine blk_alloc ?_ _)); exact BK178.out) hb); have n2_ := Aside0.mk (below_step (by repeat (first | (with_reducible first | exact HB.out | apply below_alloc | apply pw_below_drewN | apply below_drew1 | refine below_set ?_ GE178.out) | exact HB.out)) hb); clear BK178; clear HB; have HO181 := n0_; have BK178 := n1_; have HB := n2_; clear n0_ n1_ n2_; clear hb ho9; obtain ⟨Ao10, co10, eo10⟩ := Kd.R_slice HO181.out; subst eo10) | ((with_reducible refine gate_callee (f := 53) rfl ?_); refine goesL_ (some 9) rfl rfl Tryd.func53 (by kernel_rfl) rfl #[.agg #[.int .i64 a0_0, .int .i64 a0_1, .int .i64 a0_2], .slice Ao10 y179.length co10] rfl (by (try simp only [List.map_toArray, List.map_cons, List.map_nil]); first | done | rfl | (simp only [List.length_drop, List.length_take]; rfl)) ?_; (with_reducible refine (triads_Kind_isTriad.calls a0_0 a0_1 a0_2 _ _ y179 true _ ?side1 ?side2 A3.out).mono ?_); (case side1 => repeat (first | exact (Kd.R_reads' HO181.out).2.2 | (with_reducible refine Kd.C_alloc ?_ _) | (with_reducible refine Kd.C_drewN ?_ _) | (with_reducible refine Kd.C_drew ?_))); (case side2 => exact (Kd.R_reads' HO181.out).2.1); rintro e w11 ⟨rfl, hb⟩; refine ⟨_, rfl, ?_⟩; have n0_ := Aside0.mk (Kd.R_below (by (with_reducible repeat (first | apply Kd.R_alloc | apply Kd.R_drewN | apply Kd.R_drew)); exact HO181.out) hb); have n1_ := Aside0.mk (blk_below (g := gb178) (o := .cells #[.int .i64 a0_0, .int .i64 a0_1, .int .i64 a0_2] 27 (0, 0)) (by (with_reducible repeat (first | refine blk_drewN ?_ _ | refine blk_drew ?_ | refine blk_alloc ?_ _)); exact BK178.out) hb); have n2_ := Aside0.mk (below_step (by repeat (first | (with_reducible first | exact HB.out | apply below_alloc | apply pw_below_drewN | apply below_drew1 | refine below_set ?_ GE178.out) | exact HB.out)) hb); clear HO181; clear BK178; clear HB; have HO181 := n0_; have BK178 := n1_; have HB := n2_; clear n0_ n1_ n2_; (try clear hb); (try clear hb2); (try clear hk); (try clear hi); have hcz12_0 : w11.cell? ⟨gb178, 0, none⟩ = some (.int .i64 a0_0) := (blk_cell BK178.out 0).trans rfl; have hcz12_1 : w11.cell? ⟨gb178, 1, none⟩ = some (.int .i64 a0_1) := (blk_cell BK178.out 1).trans rfl; have hcz12_2 : w11.cell? ⟨gb178, 2, none⟩ = some (.int .i64 a0_2) := (blk_cell BK178.out 2).trans rfl; have hfz12_0 := blk_frozen BK178.out 0; have hfz12_1 := blk_frozen BK178.out 1; have hfz12_2 := blk_frozen BK178.out 2) | ((with_reducible refine gate_callee (f := 60) rfl ?_); refine goesL_ (some 13) rfl rfl Tryd.func60 (by kernel_rfl) rfl #[.agg #[.int .i64 a0_0, .int .i64 a0_1, .int .i64 a0_2], .int .i64 a1] rfl (by (try simp only [List.map_toArray, List.map_cons, List.map_nil]); first | done | rfl | (simp only [List.length_drop, List.length_take]; rfl)) ?_; (with_reducible refine (triads_Kind_tones.calls k a0_0 a0_1 a0_2 a1 t183 _ A5.out).mono ?_); rintro e w13 ⟨rfl, hb⟩; refine ⟨_, rfl, ?_⟩; have n0_ := Aside0.mk (Kd.R_below (by (with_reducible repeat (first | apply Kd.R_alloc | apply Kd.R_drewN | apply Kd.R_drew)); exact HO181.out) hb); have n1_ := Aside0.mk (blk_below (g := gb178) (o := .cells #[.int .i64 a0_0, .int .i64 a0_1, .int .i64 a0_2] 27 (0, 0)) (by (with_reducible repeat (first | refine blk_drewN ?_ _ | refine blk_drew ?_ | refine blk_alloc ?_ _)); exact BK178.out) hb); have n2_ := Aside0.mk (below_step (by repeat (first | (with_reducible first | exact HB.out | apply below_alloc | apply pw_below_drewN | apply below_drew1 | refine below_set ?_ GE178.out) | exact HB.out)) hb); clear HO181; clear BK178; clear HB; have HO181 := n0_; have BK178 := n1_; have HB := n2_; clear n0_ n1_ n2_; (try clear hb); (try clear hb2); (try clear hk); (try clear hi)))
    go_ret2
    exact ⟨by first | rfl | (simp [errW_none, errW_some] <;> rfl) | (simp [*, errW_none, errW_some] <;> rfl), by repeat (first | (with_reducible first | exact HB.out | apply below_alloc | apply pw_below_drewN | apply below_drew1 | refine below_set ?_ GE178.out) | exact HB.out)⟩
  · replace c4 := Bool.eq_false_iff.mpr c4
    subst c4
    have H1 : (some (0, 2)) = some (r1, r2) := by rw [if_neg (show ¬ (false = true) by decide)] at H; exact H
    clear H
    have H := H1
    clear H1
    simp only [Option.some.injEq, Prod.mk.injEq] at H
    obtain ⟨rfl, rfl⟩ := H
    go_enter Tryd.func25, Tryd.ntmps25
    go_wp2_with (first | ((with_reducible refine gate_dst (N := 2) rfl ?_); refine box_event ?hg (N := 2) ?hd (cs := #[.int .i64 a0_0, .int .i64 a0_1, .int .i64 a0_2]) (t := 27) ?hr ?_; (case hd => rfl); (case hg => rfl); (case hr => first | (go_simp; done) | (go_simp; rfl)); intro gb178 hg w14 hbox hb; have n0_ := Aside0.mk (below_step (by repeat (first | (with_reducible first | exact HB.out | apply below_alloc | apply pw_below_drewN | apply below_drew1) | exact HB.out)) hb); have n1_ := Aside0.mk (hbox); have n2_ := Aside0.mk ((by rw [hg]; exact (below_size (by repeat (first | (with_reducible first | exact HB.out | apply below_alloc | apply pw_below_drewN | apply below_drew1) | exact HB.out))) : w.heap.size ≤ gb178)); have n3_ := Aside0.mk ((by rw [hg]; exact (below_size (by repeat (first | (with_reducible first | exact HB.out | apply below_alloc | apply pw_below_drewN | apply below_drew1) | exact HB.out))) : w.heap.size ≤ gb178)); clear HB; have HB := n0_; have BK178 := n1_; have GW178 := n2_; have GE178 := n3_; clear n0_ n1_ n2_ n3_; clear hb hbox hg; have hcz15_0 : w14.cell? ⟨gb178, 0, none⟩ = some (.int .i64 a0_0) := (blk_cell BK178.out 0).trans rfl; have hcz15_1 : w14.cell? ⟨gb178, 1, none⟩ = some (.int .i64 a0_1) := (blk_cell BK178.out 1).trans rfl; have hcz15_2 : w14.cell? ⟨gb178, 2, none⟩ = some (.int .i64 a0_2) := (blk_cell BK178.out 2).trans rfl; have hfz15_0 := blk_frozen BK178.out 0; have hfz15_1 := blk_frozen BK178.out 1; have hfz15_2 := blk_frozen BK178.out 2) | ((with_reducible refine gate_dst (N := 8) rfl ?_); refine Kd.R_lit (Kd.int .i64) _ 3 ?hg (N := 8) ?hd (xs := ([a1] : List Int)) (inner := [.int .i64 a1]) (ok := fun _ => True) (okp := fun _ => True) ?hr ?hp (fun _ hk => hk) trivial (Below.refl _ _) (Nat.le_refl _) (by simp) ?_; (case hd => rfl); (case hg => rfl); (case hr => first | (go_simp; done) | (go_simp; rfl)); (case hp => exact (Reps.one (show Kd.M (Kd.int .i64) _ _ _ a1 [.int .i64 a1] from rfl) (Reps.none _ _))); intro v180 w16 ho17 hb hg_ hnew_; clear hg_ hnew_; (first | rw [← Ny179.out] at ho17 | (simp only [Int.reduceToNat] at ho17; rw [← Ny179.out] at ho17)); have n0_ := Aside0.mk (Kd.R_lower ho17 (below_size (by repeat (first | (with_reducible first | exact HB.out | apply below_alloc | apply pw_below_drewN | apply below_drew1 | refine below_set ?_ GE178.out) | exact HB.out)))); have n1_ := Aside0.mk (blk_below (g := gb178) (o := .cells #[.int .i64 a0_0, .int .i64 a0_1, .int .i64 a0_2] 27 (0, 0)) (by (with_reducible repeat (first | refine blk_drewN ?_ _ | refine blk_drew ?_ | refine blk_alloc ?_ _)); exact BK178.out) hb); have n2_ := Aside0.mk (below_step (by repeat (first | (with_reducible first | exact HB.out | apply below_alloc | apply pw_below_drewN | apply below_drew1 | refine below_set ?_ GE178.out) | exact HB.out)) hb); clear BK178; clear HB; have HO181 := n0_; have BK178 := n1_; have HB := n2_; clear n0_ n1_ n2_; clear hb ho17; obtain ⟨Ao18, co18, eo18⟩ := Kd.R_slice HO181.out; subst eo18) | ((with_reducible refine gate_callee (f := 53) rfl ?_); refine goesL_ (some 9) rfl rfl Tryd.func53 (by kernel_rfl) rfl #[.agg #[.int .i64 a0_0, .int .i64 a0_1, .int .i64 a0_2], .slice Ao18 y179.length co18] rfl (by (try simp only [List.map_toArray, List.map_cons, List.map_nil]); first | done | rfl | (simp only [List.length_drop, List.length_take]; rfl)) ?_; (with_reducible refine (triads_Kind_isTriad.calls a0_0 a0_1 a0_2 _ _ y179 false _ ?side1 ?side2 A3.out).mono ?_); (case side1 => repeat (first | exact (Kd.R_reads' HO181.out).2.2 | (with_reducible refine Kd.C_alloc ?_ _) | (with_reducible refine Kd.C_drewN ?_ _) | (with_reducible refine Kd.C_drew ?_))); (case side2 => exact (Kd.R_reads' HO181.out).2.1); rintro e w19 ⟨rfl, hb⟩; refine ⟨_, rfl, ?_⟩; have n0_ := Aside0.mk (Kd.R_below (by (with_reducible repeat (first | apply Kd.R_alloc | apply Kd.R_drewN | apply Kd.R_drew)); exact HO181.out) hb); have n1_ := Aside0.mk (blk_below (g := gb178) (o := .cells #[.int .i64 a0_0, .int .i64 a0_1, .int .i64 a0_2] 27 (0, 0)) (by (with_reducible repeat (first | refine blk_drewN ?_ _ | refine blk_drew ?_ | refine blk_alloc ?_ _)); exact BK178.out) hb); have n2_ := Aside0.mk (below_step (by repeat (first | (with_reducible first | exact HB.out | apply below_alloc | apply pw_below_drewN | apply below_drew1 | refine below_set ?_ GE178.out) | exact HB.out)) hb); clear HO181; clear BK178; clear HB; have HO181 := n0_; have BK178 := n1_; have HB := n2_; clear n0_ n1_ n2_; (try clear hb); (try clear hb2); (try clear hk); (try clear hi)))
    go_ret2
    exact ⟨by first | rfl | (simp [errW_none, errW_some] <;> rfl) | (simp [*, errW_none, errW_some] <;> rfl), by repeat (first | (with_reducible first | exact HB.out | apply below_alloc | apply pw_below_drewN | apply below_drew1 | refine below_set ?_ GE178.out) | exact HB.out)⟩

end Go.Proofs.YtpaeobpmkdekfaaDoor.P
end

section
namespace Go.Proofs.YtpaeobpmkdekfaaDoor.P
open Go.RowKit Go.Proofs.YtpaeobpmkdekfaaDoorW.PrintWords Go.Proofs.YtpaeobpmkdekfaaDoorW.PrintLast Go.Proofs.YtpaeobpmkdekfaaDoorW.PrintMore
attribute [local go_sem] max2_int min2_int max_two min_two max_three min_three max_four min_four   -- for this text's walks alone
set_option linter.unusedVariables false
set_option linter.unusedSimpArgs false
end Go.Proofs.YtpaeobpmkdekfaaDoor.P
end

section
namespace Go.Proofs.YtpaeobpmkdekfaaDoor.Base
open Go.RowKit Go.Proofs.YtpaeobpmkdekfaaDoor.P Go.Proofs.YtpaeobpmkdekfaaDoor.Kit Go.Proofs.YtpaeobpmkdekfaaDoorW.PrintWords Go.Proofs.YtpaeobpmkdekfaaDoorW.PrintLast
theorem tm (x n : Int) (hn : 0 < n) : Int.tmod (Int.tmod x n + n) n = x % n := by
  have e := Int.emod_nonneg x (show n ≠ 0 by omega)
  have l := Int.emod_lt_of_pos x hn
  have hna : (n.natAbs : Int) = n := by omega
  have q : Int.tmod x n = x % n ∨ Int.tmod x n = x % n - n := by
    rw [Int.tmod_eq_emod]
    split
    · left; omega
    · right; rw [hna]
  rcases q with q | q
  · rw [q, Int.tmod_eq_emod_of_nonneg (by omega), Int.add_emod_right, Int.emod_emod_of_dvd _ (Int.dvd_refl n)]
  · rw [q, show x % n - n + n = x % n by omega, Int.tmod_eq_emod_of_nonneg e, Int.emod_emod_of_dvd _ (Int.dvd_refl n)]

/-- A Kind, as the document says. -/
def isKind (n a b : Int) : Bool := decide (5 ≤ n ∧ n ≤ 16 ∧ 0 < a ∧ a < b ∧ b < n ∧ a ≠ b - a ∧ a ≠ n - b ∧ b - a ≠ n - b)
def up (a b c : Int) : Int := if c = 80 then b else if c = 76 then a + b else a
def stepI (n a b t c : Int) : Int := if t < n then n + (t + up a b c) % n else (t - up a b c) % n
theorem up_le {n a b : Int} (h : isKind n a b = true) (c : Int) : 0 < up a b c ∧ up a b c ≤ 32 := by
  obtain ⟨h1, h2, h3, h4, h5, _⟩ := of_decide_eq_true h
  unfold up
  split
  · omega
  · split <;> omega
theorem step_range {n a b : Int} (h : isKind n a b = true) (t c : Int) : 0 ≤ stepI n a b t c ∧ stepI n a b t c < 2 * n := by
  obtain ⟨h1, h2, h3, h4, h5, _⟩ := of_decide_eq_true h
  unfold stepI
  split
  · have := Int.emod_nonneg (t + up a b c) (show n ≠ 0 by omega)
    have := Int.emod_lt_of_pos (t + up a b c) (show 0 < n by omega)
    omega
  · have := Int.emod_nonneg (t - up a b c) (show n ≠ 0 by omega)
    have := Int.emod_lt_of_pos (t - up a b c) (show 0 < n by omega)
    omega
theorem up_f {n a b : Int} (h : isKind n a b = true) (c : Int) : triads_Kind_up.f n a b c = some (up a b c) := by
  obtain ⟨h1, h2, h3, h4, h5, _⟩ := of_decide_eq_true h
  unfold triads_Kind_up.f up
  rw [w64 (x := a + b) (by omega) (by omega)]
  split
  · rfl
  · split <;> rfl
theorem tmod_small (x n : Int) (hn0 : 0 < n) : -n < Int.tmod x n ∧ Int.tmod x n < n := by
  have e := Int.emod_nonneg x (show n ≠ 0 by omega)
  have l := Int.emod_lt_of_pos x hn0
  have hna : (n.natAbs : Int) = n := by omega
  rw [Int.tmod_eq_emod]
  split
  · omega
  · rw [hna]
    have : x % n ≠ 0 := by
      intro h0
      have : n ∣ x := Int.dvd_of_emod_eq_zero h0
      omega
    omega
theorem number_f (n a b x : Int) (dark : Bool) (hn0 : 0 < n) (hn : n ≤ 16) : triads_Kind_number.f n a b x dark = some (if dark = true then x % n + n else x % n) := by
  have ts := tmod_small x n hn0
  have e := Int.emod_nonneg x (show n ≠ 0 by omega)
  have l := Int.emod_lt_of_pos x hn0
  unfold triads_Kind_number.f
  rw [if_neg (by omega), w64 (x := Int.tmod x n + n) (by omega) (by omega), tm x n hn0, w64 (x := x % n + n) (by omega) (by omega)]
  split <;> rfl
theorem step_f {n a b : Int} (h : isKind n a b = true) (t c : Int) (ht0 : 0 ≤ t) (ht : t < 2 * n) : triads_Kind_step.f n a b t c = some (stepI n a b t c) := by
  obtain ⟨h1, h2, h3, h4, h5, _⟩ := of_decide_eq_true h
  have hu := up_le h c
  unfold triads_Kind_step.f triads_Kind_triad.f stepI
  rw [if_neg (by omega)]
  simp only [Option.bind_some, up_f h]
  by_cases c1 : t < n
  · have e1 : Int.tmod t n = t := by rw [Int.tmod_eq_emod_of_nonneg ht0, Int.emod_eq_of_lt ht0 c1]
    have d1 : decide (t ≥ n) = false := decide_eq_false (by omega)
    rw [d1, e1, if_neg (by decide), w64 (x := t + up a b c) (by omega) (by omega), number_f n a b _ _ (by omega) h2, if_pos c1]
    simp only [Option.bind_some, Bool.not_false, if_true]
    congr 1
    omega
  · have e1 : Int.tmod t n = t - n := by rw [Int.tmod_eq_emod_of_nonneg ht0, ← Int.sub_emod_right, Int.emod_eq_of_lt (by omega) (by omega)]
    have d1 : decide (t ≥ n) = true := decide_eq_true (by omega)
    rw [d1, e1, if_pos rfl, w64 (x := t - n - up a b c) (by omega) (by omega), number_f n a b _ _ (by omega) h2, if_neg c1]
    simp only [Option.bind_some, Bool.not_true, Bool.false_eq_true, if_false]
    congr 1
    rw [show t - n - up a b c = t - up a b c - n by omega, Int.sub_emod_right]
end Go.Proofs.YtpaeobpmkdekfaaDoor.Base
end

section
namespace Go.Proofs.YtpaeobpmkdekfaaDoor.Base
open Go.RowKit Go.Proofs.YtpaeobpmkdekfaaDoor.P Go.Proofs.YtpaeobpmkdekfaaDoor.Kit Go.Proofs.YtpaeobpmkdekfaaDoorW.PrintWords Go.Proofs.YtpaeobpmkdekfaaDoorW.PrintLast
theorem Ev.done {α : Type} {g : Nat → Option α} {r : α} (h : ∀ k, g (k + 1) = some r) : Ev g r := Ev.step (f := fun _ => some r) h (Ev.now r)
/-- Go's ints. -/
def Int64 (x : Int) : Prop := -9223372036854775808 ≤ x ∧ x < 9223372036854775808
theorem valid_f (n a b : Int) (hn : Int64 n) (ha : Int64 a) (hb : Int64 b) : triads_Kind_valid.f n a b = some (isKind n a b) := by
  unfold triads_Kind_valid.f isKind
  unfold Int64 at *
  by_cases c1 : n < 5
  · rw [if_pos c1]; congr 1; symm; exact decide_eq_false (by omega)
  · rw [if_neg c1]
    by_cases c2 : n > 16
    · rw [if_pos c2]; congr 1; symm; exact decide_eq_false (by omega)
    · rw [if_neg c2]
      by_cases c3 : a ≤ 0
      · rw [if_pos c3]; congr 1; symm; exact decide_eq_false (by omega)
      · rw [if_neg c3]
        by_cases c4 : b ≤ a
        · rw [if_pos c4]; congr 1; symm; exact decide_eq_false (by omega)
        · rw [if_neg c4]
          by_cases c5 : n ≤ b
          · rw [if_pos c5]; congr 1; symm; exact decide_eq_false (by omega)
          · rw [if_neg c5, w64 (x := b - a) (by omega) (by omega), w64 (x := n - b) (by omega) (by omega)]
            by_cases c6 : a = b - a
            · rw [if_pos c6]; congr 1; symm; exact decide_eq_false (by omega)
            · rw [if_neg c6]
              by_cases c7 : b - a = n - b
              · rw [if_pos c7]; congr 1; symm; exact decide_eq_false (by omega)
              · rw [if_neg c7]
                congr 1
                rw [Bool.eq_iff_iff, bne_iff_ne, decide_eq_true_eq]
                omega
theorem rValid_f (n a b : Int) (hn : Int64 n) (ha : Int64 a) (hb : Int64 b) : sackbutref04_Valid.f n a b = some (isKind n a b) := by
  unfold sackbutref04_Valid.f isKind
  unfold Int64 at *
  by_cases c1 : n ≥ 5
  · rw [if_pos c1]
    by_cases c2 : n ≤ 16
    · rw [if_pos c2]
      by_cases c3 : a > 0
      · rw [if_pos c3]
        by_cases c4 : a < b
        · rw [if_pos c4]
          by_cases c5 : b < n
          · rw [if_pos c5, w64 (x := b - a) (by omega) (by omega), w64 (x := n - b) (by omega) (by omega)]
            by_cases c6 : a = b - a
            · rw [if_pos c6]; congr 1; symm; exact decide_eq_false (by omega)
            · rw [if_neg c6]
              by_cases c7 : a = n - b
              · rw [if_pos c7]; congr 1; symm; exact decide_eq_false (by omega)
              · rw [if_neg c7]
                congr 1
                rw [Bool.eq_iff_iff, bne_iff_ne, decide_eq_true_eq]
                omega
          · rw [if_neg c5]; congr 1; symm; exact decide_eq_false (by omega)
        · rw [if_neg c4]; congr 1; symm; exact decide_eq_false (by omega)
      · rw [if_neg c3]; congr 1; symm; exact decide_eq_false (by omega)
    · rw [if_neg c2]; congr 1; symm; exact decide_eq_false (by omega)
  · rw [if_neg c1]; congr 1; symm; exact decide_eq_false (by omega)

/-- A triad of a Kind. -/
def isTri (n t : Int) : Bool := decide (0 ≤ t ∧ t < 2 * n)
theorem notTriad_f (n t : Int) (h1 : 5 ≤ n) (h2 : n ≤ 16) : notTriad n t = !isTri n t := by
  unfold notTriad isTri
  rw [w64 (x := 2 * n) (by omega) (by omega), Bool.eq_iff_iff]
  simp
theorem isTriad_f (n a b t : Int) (hn : Int64 n) (ha : Int64 a) (hb : Int64 b) : triads_Kind_isTriad.f n a b [t] = some (isKind n a b && isTri n t) := by
  unfold triads_Kind_isTriad.f
  rw [valid_f n a b hn ha hb]
  simp only [Option.bind_some, List.any_cons, List.any_nil, Bool.or_false]
  cases h : isKind n a b with
  | false => simp
  | true =>
    obtain ⟨h1, h2, _⟩ := of_decide_eq_true h
    rw [notTriad_f n t h1 h2]
    simp

/-- A walk. -/
def walkI (n a b : Int) : List UInt8 → Int → Int
  | [], t => t
  | c :: l, t => walkI n a b l (stepI n a b t (c.toNat : Int))
theorem walk_go {n a b : Int} (h : isKind n a b = true) : ∀ (l : List UInt8) (t : Int), 0 ≤ t → t < 2 * n → triads_Kind_walk.go n a b l t = some (walkI n a b l t)
  | [], t, _, _ => rfl
  | c :: l, t, h0, h1 => by
    have hr := step_range h t (c.toNat : Int)
    rw [triads_Kind_walk.go, step_f h t _ h0 h1]
    exact walk_go h l _ hr.1 hr.2

end Go.Proofs.YtpaeobpmkdekfaaDoor.Base
end

section
namespace Go.Proofs.YtpaeobpmkdekfaaDoor.Base
open Go.RowKit Go.Proofs.YtpaeobpmkdekfaaDoor.P Go.Proofs.YtpaeobpmkdekfaaDoor.Kit Go.Proofs.YtpaeobpmkdekfaaDoorW.PrintWords Go.Proofs.YtpaeobpmkdekfaaDoorW.PrintLast
theorem awake_f : sackbutlaw04_awake.f = some true := by decide +kernel
def isWalkB (s : ByteArray) : Bool := decide (s.size ≤ 60) && s.data.toList.all stepByte
theorem fine_f (n a b t : Int) (hn : Int64 n) (ha : Int64 a) (hb : Int64 b) : Ev (fun k => sackbutlaw04_fine.f k n a b [t]) (isKind n a b && isTri n t) := by
  have hv := rValid_f n a b hn ha hb
  have e0 : rd ([t] : List Int) 0 = t := rfl
  have e1 : wrap64 ((0 : Int) + 1) = 1 := by rw [w64 (by omega) (by omega)]; rfl
  by_cases htri : sackbutref04_Triad.f n a b t = some true
  · refine Ev.step (f := fun k => sackbutlaw04_fine.l0 k [t] 1 1 n a b) (g := fun k => sackbutlaw04_fine.f k n a b [t]) (fun k => ?_) (Ev.done fun k => ?_)
    · show sackbutlaw04_fine.l0 (k + 1) [t] 1 0 n a b = _
      simp only [sackbutlaw04_fine.l0]
      rw [if_pos (by decide), if_pos (by decide), if_pos (by simp), e0, htri, e1]
      rfl
    · simp only [sackbutlaw04_fine.l0]
      rw [if_neg (by decide), hv]
      show some (isKind n a b) = _
      congr 1
      cases hk : isKind n a b with
      | false => rfl
      | true =>
        obtain ⟨h1, h2, _⟩ := of_decide_eq_true hk
        unfold sackbutref04_Triad.f at htri
        rw [w64 (x := 2 * n) (by omega) (by omega)] at htri
        symm
        rw [Bool.true_and]
        unfold isTri
        split at htri
        · rename_i h0
          have := of_decide_eq_true (Option.some.inj htri)
          exact decide_eq_true (by omega)
        · cases Option.some.inj htri
  · refine Ev.done fun k => ?_
    show sackbutlaw04_fine.l0 (k + 1) [t] 1 0 n a b = _
    simp only [sackbutlaw04_fine.l0]
    rw [if_pos (by decide), if_pos (by decide), if_pos (by simp), e0]
    unfold sackbutref04_Triad.f at htri ⊢
    by_cases h0 : t ≥ 0
    · rw [if_pos h0] at htri ⊢
      have hlt : decide (t < wrap64 (2 * n)) = false := by
        cases hd : decide (t < wrap64 (2 * n)) with
        | false => rfl
        | true => rw [hd] at htri; exact absurd rfl htri
      rw [hlt]
      show some false = _
      congr 1
      cases hk : isKind n a b with
      | false => rfl
      | true =>
        obtain ⟨h1, h2, _⟩ := of_decide_eq_true hk
        rw [w64 (x := 2 * n) (by omega) (by omega)] at hlt
        have := of_decide_eq_false hlt
        symm
        rw [Bool.true_and]
        exact decide_eq_false (by omega)
    · rw [if_neg h0]
      show some false = _
      congr 1
      symm
      have : isTri n t = false := decide_eq_false (by omega)
      rw [this, Bool.and_false]
theorem int64_of {x : Int} (h : (Lit.int .i64 x).wf = true) : Int64 x := by
  have h2 : (decide (IntKind.i64.min ≤ x) && decide (x ≤ IntKind.i64.max)) = true := h
  rw [Bool.and_eq_true, decide_eq_true_eq, decide_eq_true_eq] at h2
  have m1 : IntKind.i64.min = -9223372036854775808 := by decide
  have m2 : IntKind.i64.max = 9223372036854775807 := by decide
  rw [m1, m2] at h2
  unfold Int64
  omega
end Go.Proofs.YtpaeobpmkdekfaaDoor.Base
end

section
namespace Go.Proofs.YtpaeobpmkdekfaaDoor.Tri
open Go.Proofs.YtpaeobpmkdekfaaDoor.Base
/-- The triad of a sort, whose first tone is a number. -/
def pos (n : Int) (d : Bool) (r : Int) : Int := if d = true then n + r % n else r % n
theorem pos_dark {n : Int} (hn : 0 < n) (d : Bool) (r : Int) : decide (n ≤ pos n d r) = d := by
  have e := Int.emod_nonneg r (show n ≠ 0 by omega)
  have l := Int.emod_lt_of_pos r hn
  unfold pos
  cases d <;> simp <;> omega
theorem pos_mod {n : Int} (d : Bool) (r : Int) : pos n d r % n = r % n := by
  unfold pos
  cases d
  · simp
  · simp
theorem pos_congr {n : Int} (d : Bool) {r s : Int} (h : r % n = s % n) : pos n d r = pos n d s := by
  unfold pos
  rw [h]
theorem pos_of {n t : Int} (h0 : 0 ≤ t) (h1 : t < 2 * n) : pos n (decide (n ≤ t)) t = t := by
  unfold pos
  by_cases h : n ≤ t
  · rw [decide_eq_true h, if_pos rfl]
    have : t % n = t - n := by rw [← Int.sub_emod_right, Int.emod_eq_of_lt (by omega) (by omega)]
    omega
  · rw [decide_eq_false h, if_neg (by decide)]
    exact Int.emod_eq_of_lt h0 (by omega)
theorem pos_inj {n : Int} (hn : 0 < n) {d e : Bool} {r s : Int} : pos n d r = pos n e s ↔ d = e ∧ r % n = s % n := by
  constructor
  · intro h
    refine ⟨?_, ?_⟩
    · rw [← pos_dark hn d r, ← pos_dark hn e s, h]
    · rw [← pos_mod d r, ← pos_mod e s, h]
  · rintro ⟨rfl, h⟩
    exact pos_congr d h
theorem emod_add_congr {n r s : Int} (h : r % n = s % n) (x : Int) : (r + x) % n = (s + x) % n := by
  rw [Int.add_emod, h, ← Int.add_emod]
theorem emod_sub_congr {n r s : Int} (h : r % n = s % n) (x : Int) : (r - x) % n = (s - x) % n := by
  rw [Int.sub_emod, h, ← Int.sub_emod]
theorem emod_rsub_congr {n r s : Int} (h : r % n = s % n) (x : Int) : (x - r) % n = (x - s) % n := by
  rw [Int.sub_emod, h, ← Int.sub_emod]
theorem step_pos {n : Int} (hn : 0 < n) (a b : Int) (d : Bool) (r c : Int) : stepI n a b (pos n d r) c = pos n (!d) (if d = true then r - up a b c else r + up a b c) := by
  have hd := pos_dark hn d r
  have hm := pos_mod (n := n) d r
  unfold stepI
  cases d with
  | true =>
    have := of_decide_eq_true hd
    rw [if_neg (by omega), if_pos rfl]
    unfold pos at hm ⊢
    simp only [if_true, Bool.not_true, Bool.false_eq_true, if_false]
    exact emod_sub_congr (by simp) _
  | false =>
    have := of_decide_eq_false hd
    rw [if_pos (by omega), if_neg (by decide)]
    unfold pos at hm ⊢
    simp only [Bool.false_eq_true, if_false, Bool.not_false, if_true]
    congr 1
    exact emod_add_congr (by simp) _

/-- By how much a walk goes up from a bright triad, and down from a dark one. -/
def alt (a b : Int) : List UInt8 → Int
  | [] => 0
  | c :: l => up a b (c.toNat : Int) - alt a b l
/-- Whether a walk has an odd number of steps. -/
def odd : List UInt8 → Bool
  | [] => false
  | _ :: l => !odd l
theorem walk_pos {n : Int} (hn : 0 < n) (a b : Int) : ∀ (l : List UInt8) (d : Bool) (r : Int), walkI n a b l (pos n d r) = pos n (d != odd l) (if d = true then r - alt a b l else r + alt a b l)
  | [], d, r => by
    unfold walkI odd alt
    cases d <;> simp
  | c :: l, d, r => by
    unfold walkI odd alt
    rw [step_pos hn, walk_pos hn a b l]
    cases d with
    | true =>
      simp only [Bool.not_true, Bool.false_eq_true, if_false, if_true]
      rw [show r - up a b (c.toNat : Int) + alt a b l = r - (up a b (c.toNat : Int) - alt a b l) by omega]
      cases odd l <;> rfl
    | false =>
      simp only [Bool.not_false, Bool.false_eq_true, if_false, if_true]
      rw [show r + up a b (c.toNat : Int) - alt a b l = r + (up a b (c.toNat : Int) - alt a b l) by omega]
      cases odd l <;> rfl
/-- Where two walks lead triad 0 to one triad they do the same everywhere. -/
theorem walk_eq_iff {n : Int} (hn : 0 < n) (a b : Int) (l m : List UInt8) (t : Int) (h0 : 0 ≤ t) (h1 : t < 2 * n) : walkI n a b l t = walkI n a b m t ↔ odd l = odd m ∧ alt a b l % n = alt a b m % n := by
  rw [← pos_of h0 h1]
  generalize decide (n ≤ t) = d
  rw [walk_pos hn, walk_pos hn, pos_inj hn]
  constructor
  · rintro ⟨g1, g2⟩
    refine ⟨?_, ?_⟩
    · clear g2
      revert g1
      cases d <;> cases odd l <;> cases odd m <;> simp
    · cases d with
      | true =>
        have := emod_rsub_congr g2 t
        simp only [if_true] at this
        rw [show t - (t - alt a b l) = alt a b l by omega, show t - (t - alt a b m) = alt a b m by omega] at this
        exact this
      | false =>
        have := emod_sub_congr g2 t
        simp only [Bool.false_eq_true, if_false] at this
        rw [show t + alt a b l - t = alt a b l by omega, show t + alt a b m - t = alt a b m by omega] at this
        exact this
  · rintro ⟨g1, g2⟩
    refine ⟨by rw [g1], ?_⟩
    cases d with
    | true => exact emod_rsub_congr g2 t
    | false =>
      simp only [Bool.false_eq_true, if_false]
      rw [Int.add_emod, g2, ← Int.add_emod]

end Go.Proofs.YtpaeobpmkdekfaaDoor.Tri
end

section
namespace Go.Proofs.YtpaeobpmkdekfaaDoor.Base
open Go.RowKit Go.Proofs.YtpaeobpmkdekfaaDoor.P Go.Proofs.YtpaeobpmkdekfaaDoor.Kit Go.Proofs.YtpaeobpmkdekfaaDoorW.PrintWords Go.Proofs.YtpaeobpmkdekfaaDoorW.PrintLast Go.Proofs.YtpaeobpmkdekfaaDoor.Tri
/-- A tone so far above a bright triad's first one, or below a dark one's. -/
def toneAt (n t u : Int) : Nat := ((if n ≤ t then t - u else t + u) % n).toNat
/-- The set of a triad's tones. -/
def tonesN (n a b t : Int) : Nat := 2 ^ toneAt n t 0 ||| 2 ^ toneAt n t a ||| 2 ^ toneAt n t b
theorem toneAt_int (n t u : Int) (hn : 0 < n) : ((toneAt n t u : Nat) : Int) = (if n ≤ t then t - u else t + u) % n := by
  unfold toneAt
  exact Int.toNat_of_nonneg (Int.emod_nonneg _ (by omega))
theorem toneAt_lt (n t u : Int) (hn : 0 < n) : ((toneAt n t u : Nat) : Int) < n := by
  rw [toneAt_int n t u hn]
  exact Int.emod_lt_of_pos _ hn
theorem shl_one (x : Nat) (hx : x < 62) : shl .i64 1 (x : Int) = ((2 ^ x : Nat) : Int) := by
  have := shl_nat 1 x (by omega) (by rw [Nat.one_mul]; exact Nat.pow_lt_pow_right (by decide) hx)
  rw [Nat.one_mul] at this
  exact this
theorem pow_lt62 {x : Nat} (hx : x < 62) : 2 ^ x < 2 ^ 62 := Nat.pow_lt_pow_right (by decide) hx
theorem or_lt62 {x y : Nat} (hx : x < 2 ^ 62) (hy : y < 2 ^ 62) : x ||| y < 2 ^ 62 := Nat.or_lt_two_pow hx hy
theorem tones_f {n a b t : Int} (hk : isKind n a b = true) (ht : isTri n t = true) : Ev (fun k => triads_Kind_tones.f k n a b t) ((tonesN n a b t : Nat) : Int) := by
  obtain ⟨h1, h2, h3, h4, h5, _⟩ := of_decide_eq_true hk
  obtain ⟨ht0, ht1⟩ := of_decide_eq_true ht
  have hn0 : 0 < n := by omega
  have t0 := toneAt_lt n t 0 hn0
  have ta := toneAt_lt n t a hn0
  have tb := toneAt_lt n t b hn0
  have l0 := Int.emod_nonneg t (show n ≠ 0 by omega)
  have l1 := Int.emod_lt_of_pos t hn0
  have e1 : Int.tmod t n = t % n := Int.tmod_eq_emod_of_nonneg ht0
  -- one round
  have round : ∀ (i : Nat) (u : Int) (acc : Nat) (k : Nat) (hi : i < 3) (hu : rd ([0, a, b] : List Int) (i : Int) = u) (hu0 : 0 ≤ u) (hu1 : u < n) (hacc : acc < 2 ^ 62),
      triads_Kind_tones.l0 (k + 1) (acc : Int) [0, a, b] 3 (i : Int) n a b (t % n) (decide (t ≥ n)) = triads_Kind_tones.l0 k ((acc ||| 2 ^ toneAt n t u : Nat) : Int) [0, a, b] 3 ((i + 1 : Nat) : Int) n a b (t % n) (decide (t ≥ n)) := by
    intro i u acc k hi hu hu0 hu1 hacc
    have tu := toneAt_lt n t u hn0
    simp only [triads_Kind_tones.l0]
    rw [if_pos (by omega), if_pos (by omega), if_pos (by show (i : Int) < 3; omega), hu, if_neg (show ¬ n = 0 by omega), if_neg (show ¬ n = 0 by omega), w64 (x := -u) (by omega) (by omega), w64 (x := t % n + -u) (by omega) (by omega), w64 (x := t % n + u) (by omega) (by omega), w64 (x := t % n + -u + n) (by omega) (by omega), w64 (x := t % n + u + n) (by omega) (by omega), w64 (x := (i : Int) + 1) (by omega) (by omega)]
    have s1 : Int.tmod (t % n + -u + n) n = (t - u) % n := by
      rw [Int.tmod_eq_emod_of_nonneg (by omega), Int.add_emod_right, Int.emod_add_emod]
      rfl
    have s2 : Int.tmod (t % n + u + n) n = (t + u) % n := by
      rw [Int.tmod_eq_emod_of_nonneg (by omega), Int.add_emod_right, Int.emod_add_emod]
    rw [s1, s2]
    by_cases hd : n ≤ t
    · have e : ((toneAt n t u : Nat) : Int) = (t - u) % n := by rw [toneAt_int n t u hn0, if_pos hd]
      rw [show decide (t ≥ n) = true from decide_eq_true hd, if_pos rfl, ← e, if_pos (by omega), shl_one _ (by omega), or_nat _ _ hacc (pow_lt62 (by omega))]
      rfl
    · have e : ((toneAt n t u : Nat) : Int) = (t + u) % n := by rw [toneAt_int n t u hn0, if_neg hd]
      rw [show decide (t ≥ n) = false from decide_eq_false hd, if_neg (by decide), ← e, if_pos (by omega), shl_one _ (by omega), or_nat _ _ hacc (pow_lt62 (by omega))]
      rfl
  have hf : ∀ k, triads_Kind_tones.f (k + 4) n a b t = some ((tonesN n a b t : Nat) : Int) := by
    intro k
    unfold triads_Kind_tones.f triads_Kind_triad.f
    rw [if_neg (show ¬ n = 0 by omega)]
    simp only [Option.bind_some]
    rw [e1]
    have r0 := round 0 0 0 (k + 3) (by omega) rfl (by omega) (by omega) (by decide)
    have r1 := round 1 a (0 ||| 2 ^ toneAt n t 0) (k + 2) (by omega) rfl (by omega) (by omega) (or_lt62 (by decide) (pow_lt62 (by omega)))
    have r2 := round 2 b (0 ||| 2 ^ toneAt n t 0 ||| 2 ^ toneAt n t a) (k + 1) (by omega) rfl (by omega) (by omega) (or_lt62 (or_lt62 (by decide) (pow_lt62 (by omega))) (pow_lt62 (by omega)))
    refine r0.trans (r1.trans (r2.trans ?_))
    simp only [triads_Kind_tones.l0]
    rw [if_neg (by decide)]
    unfold tonesN
    rw [Nat.zero_or]
  exact ⟨4, fun k hk => by
    obtain ⟨m, rfl⟩ : ∃ m, k = m + 4 := ⟨k - 4, by omega⟩
    exact hf m⟩
theorem Tones_f {n a b : Int} (t : Int) (hn : Int64 n) (ha : Int64 a) (hb : Int64 b) : Ev (fun k => triads_Tones.f k n a b t) (if (isKind n a b && isTri n t) = true then (((tonesN n a b t : Nat) : Int), (0 : Int)) else (0, 2)) := by
  unfold triads_Tones.f
  rw [isTriad_f n a b t hn ha hb]
  simp only [Option.bind_some]
  cases hk : (isKind n a b && isTri n t) with
  | false => exact Ev.now _
  | true =>
    obtain ⟨hk1, hk2⟩ := Bool.and_eq_true_iff.1 hk
    simp only [if_true]
    exact Ev.bind (tones_f hk1 hk2) (Ev.now _)
end Go.Proofs.YtpaeobpmkdekfaaDoor.Base
end

section
namespace Go.Proofs.YtpaeobpmkdekfaaDoor.P
open Go.RowKit Go.Proofs.YtpaeobpmkdekfaaDoorW.PrintWords Go.Proofs.YtpaeobpmkdekfaaDoorW.PrintLast Go.Proofs.YtpaeobpmkdekfaaDoorW.PrintMore
attribute [local go_sem] max2_int min2_int max_two min_two max_three min_three max_four min_four   -- for this text's walks alone
set_option linter.unusedVariables false
set_option linter.unusedSimpArgs false
end Go.Proofs.YtpaeobpmkdekfaaDoor.P
end
