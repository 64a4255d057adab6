/- Texts that the proof of TriadsSteps needs, put together in build order by this session's program (wip/tools/claimtrim.py). -/
import Derived.Test.YtpaeobpmkdekfaaDoorTriadsStepsM8
import Derived.Test.YtpaeobpmkdekfaaDoorTriadsStepsM14
import Derived.Test.YtpaeobpmkdekfaaDoorTriadsStepsM16
import Derived.Outline
section
namespace Go.Proofs.YtpaeobpmkdekfaaDoor.P
open Go.RowKit Go.Proofs.YtpaeobpmkdekfaaDoorW.PrintWords Go.Proofs.YtpaeobpmkdekfaaDoorW.PrintLast Go.Proofs.YtpaeobpmkdekfaaDoorW.PrintMore
set_option linter.unusedVariables false
section
open Go.Proofs.YtpaeobpmkdekfaaDoor.Base Go.Proofs.YtpaeobpmkdekfaaDoor.Kit
set_option maxHeartbeats 60000000 in
set_option maxRecDepth 100000 in
theorem sackbutlaw04_TriadsSteps.calls (n a b t : Int) (hn : Int64 n) (ha : Int64 a) (hb : Int64 b) (w : World) :
    Calls Tryd.prog 5 #[.agg #[.int .i64 n, .int .i64 a, .int .i64 b], .int .i64 t] w fun e w' => e = .returned (.bool true) ∧ Below w.heap.size w w' := by
  have hT := Tones_f (n := n) (a := a) (b := b) t hn ha hb
  obtain ⟨kT, HT⟩ := Ev.rounds hT
  have hF := fine_f n a b t hn ha hb
  obtain ⟨kF, HF0⟩ := Ev.rounds hF
  have HF := Aside0.mk HF0
  have HTA := Aside0.mk HT
  clear hT HT hF HF0
  cases hk : (isKind n a b && isTri n t) with
  | false =>
    rw [hk] at HTA
    replace HTA := Aside0.mk (show triads_Tones.f kT n a b t = some (0, 2) from HTA.out)
    go_enter Tryd.func5, Tryd.ntmps5
    go_wp2_with (first | ((with_reducible refine gate_dst (N := 2) rfl ?_); (try (refine gate_guard (by rfl) ?_; dsimp only)); refine box_event ?hg (N := 2) ?hd (cs := #[.int .i64 n, .int .i64 a, .int .i64 b]) (t := 23) ?hr ?_; (case hd => rfl); (case hg => rfl); (case hr => first | (go_simp; done) | (go_simp; rfl)); intro gb hg w1 hbox hb; have HB := Aside0.mk (below_step (Below.refl _ w) hb); have BK := Aside0.mk hbox; have GE := Aside0.mk (show w.heap.size ≤ gb by omega); have hc0_w1 : w1.cell? ⟨gb, 0, none⟩ = some (.int .i64 n) := (blk_cell BK.out 0).trans rfl; have hf0_w1 := blk_frozen BK.out 0; have hc1_w1 : w1.cell? ⟨gb, 1, none⟩ = some (.int .i64 a) := (blk_cell BK.out 1).trans rfl; have hf1_w1 := blk_frozen BK.out 1; have hc2_w1 : w1.cell? ⟨gb, 2, none⟩ = some (.int .i64 b) := (blk_cell BK.out 2).trans rfl; have hf2_w1 := blk_frozen BK.out 2; clear hb hbox hg) | (go_at_call 17; refine (sackbutlaw04_Of.calls n a b _ _ _ _ rfl).mono ?_; rintro e_ w2 ⟨rfl, hb⟩; have n0_ := Aside0.mk (blk_below (g := gb) (o := .cells #[.int .i64 n, .int .i64 a, .int .i64 b] 23 (0, 0)) (by (with_reducible repeat (first | refine blk_drewN ?_ _ | refine blk_drew ?_ | refine blk_alloc ?_ _)); exact BK.out) hb); have n1_ := Aside0.mk (below_step (by repeat (first | (with_reducible first | exact HB.out | apply below_alloc | apply pw_below_drewN | apply below_drew1 | refine below_set ?_ GE.out) | exact HB.out)) hb); clear BK HB; have BK := n0_; have HB := n1_; clear n0_ n1_ hb; have hc0_w2 : w2.cell? ⟨gb, 0, none⟩ = some (.int .i64 n) := (blk_cell BK.out 0).trans rfl; have hf0_w2 := blk_frozen BK.out 0; have hc1_w2 : w2.cell? ⟨gb, 1, none⟩ = some (.int .i64 a) := (blk_cell BK.out 1).trans rfl; have hf1_w2 := blk_frozen BK.out 1; have hc2_w2 : w2.cell? ⟨gb, 2, none⟩ = some (.int .i64 b) := (blk_cell BK.out 2).trans rfl; have hf2_w2 := blk_frozen BK.out 2; ) | (go_at_call 25; refine (triads_Tones.calls kT n a b t 0 2 _ HTA.out).mono ?_; rintro e_ w3 ⟨rfl, hb⟩; have n0_ := Aside0.mk (blk_below (g := gb) (o := .cells #[.int .i64 n, .int .i64 a, .int .i64 b] 23 (0, 0)) (by (with_reducible repeat (first | refine blk_drewN ?_ _ | refine blk_drew ?_ | refine blk_alloc ?_ _)); exact BK.out) hb); have n1_ := Aside0.mk (below_step (by repeat (first | (with_reducible first | exact HB.out | apply below_alloc | apply pw_below_drewN | apply below_drew1 | refine below_set ?_ GE.out) | exact HB.out)) hb); clear BK HB; have BK := n0_; have HB := n1_; clear n0_ n1_ hb; have hc0_w3 : w3.cell? ⟨gb, 0, none⟩ = some (.int .i64 n) := (blk_cell BK.out 0).trans rfl; have hf0_w3 := blk_frozen BK.out 0; have hc1_w3 : w3.cell? ⟨gb, 1, none⟩ = some (.int .i64 a) := (blk_cell BK.out 1).trans rfl; have hf1_w3 := blk_frozen BK.out 1; have hc2_w3 : w3.cell? ⟨gb, 2, none⟩ = some (.int .i64 b) := (blk_cell BK.out 2).trans rfl; have hf2_w3 := blk_frozen BK.out 2; ) | (go_at_call 20; refine (sackbutlaw04_awake.calls true _ Base.awake_f).mono ?_; rintro e_ w4 ⟨rfl, hb⟩; have n0_ := Aside0.mk (blk_below (g := gb) (o := .cells #[.int .i64 n, .int .i64 a, .int .i64 b] 23 (0, 0)) (by (with_reducible repeat (first | refine blk_drewN ?_ _ | refine blk_drew ?_ | refine blk_alloc ?_ _)); exact BK.out) hb); have n1_ := Aside0.mk (below_step (by repeat (first | (with_reducible first | exact HB.out | apply below_alloc | apply pw_below_drewN | apply below_drew1 | refine below_set ?_ GE.out) | exact HB.out)) hb); clear BK HB; have BK := n0_; have HB := n1_; clear n0_ n1_ hb; have hc0_w4 : w4.cell? ⟨gb, 0, none⟩ = some (.int .i64 n) := (blk_cell BK.out 0).trans rfl; have hf0_w4 := blk_frozen BK.out 0; have hc1_w4 : w4.cell? ⟨gb, 1, none⟩ = some (.int .i64 a) := (blk_cell BK.out 1).trans rfl; have hf1_w4 := blk_frozen BK.out 1; have hc2_w4 : w4.cell? ⟨gb, 2, none⟩ = some (.int .i64 b) := (blk_cell BK.out 2).trans rfl; have hf2_w4 := blk_frozen BK.out 2; ))
    go_ret
    exact ⟨rfl, HB.out⟩
  | true =>
    rw [hk] at HTA HF
    obtain ⟨S, hS⟩ : ∃ S : Int, S = ((tonesN n a b t : Nat) : Int) := ⟨_, rfl⟩
    replace HTA := Aside0.mk (show triads_Tones.f kT n a b t = some (S, 0) by rw [hS]; exact HTA.out)
    have HS := Aside0.mk hS
    clear hS
    obtain ⟨hk1, hk2⟩ := Bool.and_eq_true_iff.1 hk
    have HK := Aside0.mk hk1
    have HTr := Aside0.mk hk2
    have hn5 : 5 ≤ n := (of_decide_eq_true hk1).1
    have hn16 : n ≤ 16 := (of_decide_eq_true hk1).2.1
    have ha0 : 0 < a := (of_decide_eq_true hk1).2.2.1
    have hab : a < b := (of_decide_eq_true hk1).2.2.2.1
    have hbn : b < n := (of_decide_eq_true hk1).2.2.2.2.1
    have ht0 : 0 ≤ t := (of_decide_eq_true hk2).1
    have ht1 : t < 2 * n := (of_decide_eq_true hk2).2
    clear hk hk1 hk2
    go_enter Tryd.func5, Tryd.ntmps5
    go_wp2_with (first | ((with_reducible refine gate_dst (N := 2) rfl ?_); (try (refine gate_guard (by rfl) ?_; dsimp only)); refine box_event ?hg (N := 2) ?hd (cs := #[.int .i64 n, .int .i64 a, .int .i64 b]) (t := 23) ?hr ?_; (case hd => rfl); (case hg => rfl); (case hr => first | (go_simp; done) | (go_simp; rfl)); intro gb hg w1 hbox hb; have HB := Aside0.mk (below_step (Below.refl _ w) hb); have BK := Aside0.mk hbox; have GE := Aside0.mk (show w.heap.size ≤ gb by omega); have hc0_w1 : w1.cell? ⟨gb, 0, none⟩ = some (.int .i64 n) := (blk_cell BK.out 0).trans rfl; have hf0_w1 := blk_frozen BK.out 0; have hc1_w1 : w1.cell? ⟨gb, 1, none⟩ = some (.int .i64 a) := (blk_cell BK.out 1).trans rfl; have hf1_w1 := blk_frozen BK.out 1; have hc2_w1 : w1.cell? ⟨gb, 2, none⟩ = some (.int .i64 b) := (blk_cell BK.out 2).trans rfl; have hf2_w1 := blk_frozen BK.out 2; clear hb hbox hg) | (go_at_call 17; refine (sackbutlaw04_Of.calls n a b _ _ _ _ rfl).mono ?_; rintro e_ w2 ⟨rfl, hb⟩; have n0_ := Aside0.mk (blk_below (g := gb) (o := .cells #[.int .i64 n, .int .i64 a, .int .i64 b] 23 (0, 0)) (by (with_reducible repeat (first | refine blk_drewN ?_ _ | refine blk_drew ?_ | refine blk_alloc ?_ _)); exact BK.out) hb); have n1_ := Aside0.mk (below_step (by repeat (first | (with_reducible first | exact HB.out | apply below_alloc | apply pw_below_drewN | apply below_drew1 | refine below_set ?_ GE.out) | exact HB.out)) hb); clear BK HB; have BK := n0_; have HB := n1_; clear n0_ n1_ hb; have hc0_w2 : w2.cell? ⟨gb, 0, none⟩ = some (.int .i64 n) := (blk_cell BK.out 0).trans rfl; have hf0_w2 := blk_frozen BK.out 0; have hc1_w2 : w2.cell? ⟨gb, 1, none⟩ = some (.int .i64 a) := (blk_cell BK.out 1).trans rfl; have hf1_w2 := blk_frozen BK.out 1; have hc2_w2 : w2.cell? ⟨gb, 2, none⟩ = some (.int .i64 b) := (blk_cell BK.out 2).trans rfl; have hf2_w2 := blk_frozen BK.out 2; ) | (go_at_call 25; refine (triads_Tones.calls kT n a b t S 0 _ HTA.out).mono ?_; rintro e_ w3 ⟨rfl, hb⟩; have n0_ := Aside0.mk (blk_below (g := gb) (o := .cells #[.int .i64 n, .int .i64 a, .int .i64 b] 23 (0, 0)) (by (with_reducible repeat (first | refine blk_drewN ?_ _ | refine blk_drew ?_ | refine blk_alloc ?_ _)); exact BK.out) hb); have n1_ := Aside0.mk (below_step (by repeat (first | (with_reducible first | exact HB.out | apply below_alloc | apply pw_below_drewN | apply below_drew1 | refine below_set ?_ GE.out) | exact HB.out)) hb); clear BK HB; have BK := n0_; have HB := n1_; clear n0_ n1_ hb; have hc0_w3 : w3.cell? ⟨gb, 0, none⟩ = some (.int .i64 n) := (blk_cell BK.out 0).trans rfl; have hf0_w3 := blk_frozen BK.out 0; have hc1_w3 : w3.cell? ⟨gb, 1, none⟩ = some (.int .i64 a) := (blk_cell BK.out 1).trans rfl; have hf1_w3 := blk_frozen BK.out 1; have hc2_w3 : w3.cell? ⟨gb, 2, none⟩ = some (.int .i64 b) := (blk_cell BK.out 2).trans rfl; have hf2_w3 := blk_frozen BK.out 2; ) | ((with_reducible refine gate_dst (N := 35) rfl ?_); (try (refine gate_guard (by rfl) ?_; dsimp only)); refine Kd.R_lit (Kd.int .i64) _ 3 ?hg (N := 35) ?hd (xs := ([t] : List Int)) (inner := [.int .i64 t]) (ok := fun _ => True) (okp := fun _ => True) ?hr ?hp (fun _ hk => hk) trivial (Below.refl _ _) (Nat.le_refl _) (by simp) ?_; (case hd => rfl); (case hg => rfl); (case hr => first | (go_simp; done) | (go_simp; rfl)); (case hp => exact (Reps.one (show Kd.M (Kd.int .i64) _ _ _ t [.int .i64 t] from rfl) (Reps.none _ _))); intro v4 w4 ho hb hg_ hnew_; clear hg_ hnew_; have HO := Aside0.mk ho; clear ho; have n0_ := Aside0.mk (blk_below (g := gb) (o := .cells #[.int .i64 n, .int .i64 a, .int .i64 b] 23 (0, 0)) (by (with_reducible repeat (first | refine blk_drewN ?_ _ | refine blk_drew ?_ | refine blk_alloc ?_ _)); exact BK.out) hb); have n1_ := Aside0.mk (below_step (by repeat (first | (with_reducible first | exact HB.out | apply below_alloc | apply pw_below_drewN | apply below_drew1 | refine below_set ?_ GE.out) | exact HB.out)) hb); clear BK HB; have BK := n0_; have HB := n1_; clear n0_ n1_ hb; have hc0_w4 : w4.cell? ⟨gb, 0, none⟩ = some (.int .i64 n) := (blk_cell BK.out 0).trans rfl; have hf0_w4 := blk_frozen BK.out 0; have hc1_w4 : w4.cell? ⟨gb, 1, none⟩ = some (.int .i64 a) := (blk_cell BK.out 1).trans rfl; have hf1_w4 := blk_frozen BK.out 1; have hc2_w4 : w4.cell? ⟨gb, 2, none⟩ = some (.int .i64 b) := (blk_cell BK.out 2).trans rfl; have hf2_w4 := blk_frozen BK.out 2; obtain ⟨Ao, co, eo⟩ := Kd.R_slice HO.out; subst eo) | (go_at_call 19; refine (sackbutlaw04_fine.calls kF n a b _ _ ([t] : List Int) true _ ?side1 ?side2 HF.out).mono ?_; (case side1 => repeat (first | exact (Kd.R_reads' HO.out).2.2 | (with_reducible refine Kd.C_alloc ?_ _) | (with_reducible refine Kd.C_drewN ?_ _) | (with_reducible refine Kd.C_drew ?_))); (case side2 => exact (Kd.R_reads' HO.out).2.1); rintro e_ w5 ⟨rfl, hb⟩; clear HO; have n0_ := Aside0.mk (blk_below (g := gb) (o := .cells #[.int .i64 n, .int .i64 a, .int .i64 b] 23 (0, 0)) (by (with_reducible repeat (first | refine blk_drewN ?_ _ | refine blk_drew ?_ | refine blk_alloc ?_ _)); exact BK.out) hb); have n1_ := Aside0.mk (below_step (by repeat (first | (with_reducible first | exact HB.out | apply below_alloc | apply pw_below_drewN | apply below_drew1 | refine below_set ?_ GE.out) | exact HB.out)) hb); clear BK HB; have BK := n0_; have HB := n1_; clear n0_ n1_ hb; have hc0_w5 : w5.cell? ⟨gb, 0, none⟩ = some (.int .i64 n) := (blk_cell BK.out 0).trans rfl; have hf0_w5 := blk_frozen BK.out 0; have hc1_w5 : w5.cell? ⟨gb, 1, none⟩ = some (.int .i64 a) := (blk_cell BK.out 1).trans rfl; have hf1_w5 := blk_frozen BK.out 1; have hc2_w5 : w5.cell? ⟨gb, 2, none⟩ = some (.int .i64 b) := (blk_cell BK.out 2).trans rfl; have hf2_w5 := blk_frozen BK.out 2; ))
    have hz : (n == 0) = false := beq_eq_false_iff_ne.mpr (by omega)
    have hz2 : ¬ n = 0 := by omega
    go_region
    have hc0_d : w5.drew.cell? ⟨gb, 0, none⟩ = some (.int .i64 n) := hc0_w5
    have hc1_d : w5.drew.cell? ⟨gb, 1, none⟩ = some (.int .i64 a) := hc1_w5
    have hc2_d : w5.drew.cell? ⟨gb, 2, none⟩ = some (.int .i64 b) := hc2_w5
    have HB5 := HB
    by_cases hge : n ≤ t
    · have hd1 : decide (n ≤ t) = true := decide_eq_true hge
      go_wp2_with fail
      have hlt5 : gb < w5.heap.size := World.block_lt_of_cell? _ _ hc0_w5
      have hA1 : (w5.alloc (.cells #[.int .i64 0, .int .i64 0, .int .i64 0] 39)).cell? ⟨gb, 1, none⟩ = some (.int .i64 a) := (World.cell?_alloc_lt _ _ _ hlt5).trans hc1_w5
      have hA2 : (w5.alloc (.cells #[.int .i64 0, .int .i64 0, .int .i64 0] 39)).cell? ⟨gb, 2, none⟩ = some (.int .i64 b) := (World.cell?_alloc_lt _ _ _ hlt5).trans hc2_w5
      go_region
      obtain ⟨x0, hx0⟩ : ∃ x0, x0 = t % n := ⟨_, rfl⟩
      obtain ⟨x1, hx1⟩ : ∃ x1, x1 = (wrap64 ((wrap64 (t % n + -a)).tmod n + n)).tmod n := ⟨_, rfl⟩
      obtain ⟨x2, hx2⟩ : ∃ x2, x2 = (wrap64 ((wrap64 (t % n + -b)).tmod n + n)).tmod n := ⟨_, rfl⟩
      rw [← hx1, ← hx2]
      have BT := Aside0.mk (show ((w5.alloc (.cells #[.int .i64 x0, .int .i64 x1, .int .i64 x2] 39)).drew.drew).heap[w5.heap.size]? = some (.cells #[.int .i64 x0, .int .i64 x1, .int .i64 x2] 39 (0, 0)) from blk_new _ _)
      replace BK := Aside0.mk (show ((w5.alloc (.cells #[.int .i64 x0, .int .i64 x1, .int .i64 x2] 39)).drew.drew).heap[gb]? = some (.cells #[.int .i64 n, .int .i64 a, .int .i64 b] 23 (0, 0)) from blk_alloc BK.out _)
      replace HB := Aside0.mk (show Below w.heap.size w ((w5.alloc (.cells #[.int .i64 x0, .int .i64 x1, .int .i64 x2] 39)).drew.drew) from (below_alloc HB.out _).drew.drew)
      rw [← hx0]
      clear hA1 hA2 hc0_d hc1_d hc2_d hc0_w5 hc1_w5 hc2_w5 hf0_w5 hf1_w5 hf2_w5
      generalize (w5.alloc (.cells #[.int .i64 x0, .int .i64 x1, .int .i64 x2] 39)).drew.drew = w6 at BT BK HB ⊢
      have GT := Aside0.mk (show w.heap.size ≤ w5.heap.size from HB5.out.size)
      generalize w5.heap.size = gt at BT GT ⊢
      clear hlt5
      have HX0b := Aside0.mk hx0
      have HX0 := Aside0.mk (show x0 = ((toneAt n t 0 : Nat) : Int) from hx0.trans (tone0 (kind_pos' HK.out)))
      have HX1 := Aside0.mk (show x1 = ((toneAt n t a : Nat) : Int) by rw [hx1, tone_said HK.out HTr.out (-a) (by omega) (by omega), toneAt_int n t a (by omega), if_pos hge, Int.sub_eq_add_neg])
      have HX2 := Aside0.mk (show x2 = ((toneAt n t b : Nat) : Int) by rw [hx2, tone_said HK.out HTr.out (-b) (by omega) (by omega), toneAt_int n t b (by omega), if_pos hge, Int.sub_eq_add_neg])
      clear hx0 hx1 hx2 HB5
      have hc0_w6 : w6.cell? ⟨gb, 0, none⟩ = some (.int .i64 n) := (blk_cell BK.out 0).trans rfl
      have hf0_w6 := blk_frozen BK.out 0
      have hc1_w6 : w6.cell? ⟨gb, 1, none⟩ = some (.int .i64 a) := (blk_cell BK.out 1).trans rfl
      have hf1_w6 := blk_frozen BK.out 1
      have hc2_w6 : w6.cell? ⟨gb, 2, none⟩ = some (.int .i64 b) := (blk_cell BK.out 2).trans rfl
      have hf2_w6 := blk_frozen BK.out 2
      have hd0_w6 : w6.cell? ⟨gt, 0, none⟩ = some (.int .i64 x0) := (blk_cell BT.out 0).trans rfl
      have he0_w6 := blk_frozen BT.out 0
      have hd1_w6 : w6.cell? ⟨gt, 1, none⟩ = some (.int .i64 x1) := (blk_cell BT.out 1).trans rfl
      have he1_w6 := blk_frozen BT.out 1
      have hd2_w6 : w6.cell? ⟨gt, 2, none⟩ = some (.int .i64 x2) := (blk_cell BT.out 2).trans rfl
      have he2_w6 := blk_frozen BT.out 2
      go_wp2_with (first | ((with_reducible refine gate_dst (N := 79) rfl ?_); (try (refine gate_guard (by rfl) ?_; dsimp only)); refine Kd.R_lit Kd.string _ 9 ?hg (N := 79) ?hd (xs := ([⟨#[80]⟩, ⟨#[76]⟩, ⟨#[82]⟩] : List ByteArray)) (inner := [.string ⟨#[80]⟩, .string ⟨#[76]⟩, .string ⟨#[82]⟩]) (ok := fun _ => True) (okp := fun _ => True) ?hr ?hp (fun _ hk => hk) trivial (Below.refl _ _) (Nat.le_refl _) (by simp) ?_; (case hd => rfl); (case hg => rfl); (case hr => first | (go_simp; done) | (go_simp; rfl)); (case hp => exact (Reps.one (show Kd.M Kd.string _ _ _ (⟨#[80]⟩ : ByteArray) [.string ⟨#[80]⟩] from rfl) (Reps.one (show Kd.M Kd.string _ _ _ (⟨#[76]⟩ : ByteArray) [.string ⟨#[76]⟩] from rfl) (Reps.one (show Kd.M Kd.string _ _ _ (⟨#[82]⟩ : ByteArray) [.string ⟨#[82]⟩] from rfl) (Reps.none _ _))))); intro v7 w7 ho hb hg_ hnew_; clear hg_ hnew_; have HO := Aside0.mk ho; clear ho; have n0_ := Aside0.mk (blk_below (g := gb) (o := .cells #[.int .i64 n, .int .i64 a, .int .i64 b] 23 (0, 0)) (by (with_reducible repeat (first | refine blk_drewN ?_ _ | refine blk_drew ?_ | refine blk_alloc ?_ _)); exact BK.out) hb); have n1_ := Aside0.mk (below_step (by repeat (first | (with_reducible first | exact HB.out | apply below_alloc | apply pw_below_drewN | apply below_drew1 | refine below_set ?_ GE.out) | exact HB.out)) hb); have n2_ := Aside0.mk (blk_below (g := gt) (o := .cells #[.int .i64 x0, .int .i64 x1, .int .i64 x2] 39 (0, 0)) (by (with_reducible repeat (first | refine blk_drewN ?_ _ | refine blk_drew ?_ | refine blk_alloc ?_ _)); exact BT.out) hb); clear BK HB BT; have BK := n0_; have HB := n1_; have BT := n2_; clear n0_ n1_ n2_ hb; have hc0_w7 : w7.cell? ⟨gb, 0, none⟩ = some (.int .i64 n) := (blk_cell BK.out 0).trans rfl; have hf0_w7 := blk_frozen BK.out 0; have hc1_w7 : w7.cell? ⟨gb, 1, none⟩ = some (.int .i64 a) := (blk_cell BK.out 1).trans rfl; have hf1_w7 := blk_frozen BK.out 1; have hc2_w7 : w7.cell? ⟨gb, 2, none⟩ = some (.int .i64 b) := (blk_cell BK.out 2).trans rfl; have hf2_w7 := blk_frozen BK.out 2; have hd0_w7 : w7.cell? ⟨gt, 0, none⟩ = some (.int .i64 x0) := (blk_cell BT.out 0).trans rfl; have he0_w7 := blk_frozen BT.out 0; have hd1_w7 : w7.cell? ⟨gt, 1, none⟩ = some (.int .i64 x1) := (blk_cell BT.out 1).trans rfl; have he1_w7 := blk_frozen BT.out 1; have hd2_w7 : w7.cell? ⟨gt, 2, none⟩ = some (.int .i64 x2) := (blk_cell BT.out 2).trans rfl; have he2_w7 := blk_frozen BT.out 2; obtain ⟨gs, cs, es, _⟩ := Kd.R_form HO.out (by decide); replace es : v7 = .slice (some ⟨gs, 0, none⟩) 3 cs := es; subst es))
      have HS0 := Aside0.mk (show w7.cell? ⟨gs, 0, none⟩ = some (.string ⟨#[80]⟩) from (Kd.R_celln (d := ByteArray.empty) HO.out 0 (by decide) (by decide)).1)
      have HS1 := Aside0.mk (show w7.cell? ⟨gs, 1, none⟩ = some (.string ⟨#[76]⟩) from (Kd.R_celln (d := ByteArray.empty) HO.out 1 (by decide) (by decide)).1)
      have HS2 := Aside0.mk (show w7.cell? ⟨gs, 2, none⟩ = some (.string ⟨#[82]⟩) from (Kd.R_celln (d := ByteArray.empty) HO.out 2 (by decide) (by decide)).1)
      clear HO
      clear hc0_w1 hf0_w1 hc1_w1 hf1_w1 hc2_w1 hf2_w1 hc0_w2 hf0_w2 hc1_w2 hf1_w2 hc2_w2 hf2_w2 hc0_w3 hf0_w3 hc1_w3 hf1_w3 hc2_w3 hf2_w3 hc0_w4 hf0_w4 hc1_w4 hf1_w4 hc2_w4 hf2_w4 hc0_w6 hf0_w6 hc1_w6 hf1_w6 hc2_w6 hf2_w6 hd0_w6 he0_w6 hd1_w6 he1_w6 hd2_w6 he2_w6 hc0_w7 hf0_w7 hc1_w7 hf1_w7 hc2_w7 hf2_w7 hd0_w7 he0_w7 hd1_w7 he1_w7 hd2_w7 he2_w7
      go_loopg [81] 3 (fun gk v wr => ∃ j : Nat, gk + j = 3 ∧ v = .int .i64 (j : Int) ∧ Aside0 (wr.heap[gb]? = some (.cells #[.int .i64 n, .int .i64 a, .int .i64 b] 23 (0, 0))) ∧ Aside0 (wr.heap[gt]? = some (.cells #[.int .i64 x0, .int .i64 x1, .int .i64 x2] 39 (0, 0))) ∧ Aside0 (wr.cell? ⟨gs, 0, none⟩ = some (.string ⟨#[80]⟩)) ∧ Aside0 (wr.cell? ⟨gs, 1, none⟩ = some (.string ⟨#[76]⟩)) ∧ Aside0 (wr.cell? ⟨gs, 2, none⟩ = some (.string ⟨#[82]⟩)) ∧ Aside0 (Below w.heap.size w wr))
      case atStart => exact ⟨0, rfl, rfl, BK, BT, HS0, HS1, HS2, HB⟩
      case round =>
        clear BK BT HS0 HS1 HS2 HB
        obtain ⟨j, hgj, rfl, BK, BT, HS0, HS1, HS2, HB⟩ := hrel
        have hc0_wr : wr.cell? ⟨gb, 0, none⟩ = some (.int .i64 n) := (blk_cell BK.out 0).trans rfl
        have hf0_wr := blk_frozen BK.out 0
        have hc1_wr : wr.cell? ⟨gb, 1, none⟩ = some (.int .i64 a) := (blk_cell BK.out 1).trans rfl
        have hf1_wr := blk_frozen BK.out 1
        have hc2_wr : wr.cell? ⟨gb, 2, none⟩ = some (.int .i64 b) := (blk_cell BK.out 2).trans rfl
        have hf2_wr := blk_frozen BK.out 2
        have hd0_wr : wr.cell? ⟨gt, 0, none⟩ = some (.int .i64 x0) := (blk_cell BT.out 0).trans rfl
        have he0_wr := blk_frozen BT.out 0
        have hd1_wr : wr.cell? ⟨gt, 1, none⟩ = some (.int .i64 x1) := (blk_cell BT.out 1).trans rfl
        have he1_wr := blk_frozen BT.out 1
        have hd2_wr : wr.cell? ⟨gt, 2, none⟩ = some (.int .i64 x2) := (blk_cell BT.out 2).trans rfl
        have he2_wr := blk_frozen BT.out 2
        rcases (show j = 0 ∨ j = 1 ∨ j = 2 ∨ j = 3 by omega) with rfl | rfl | rfl | rfl
        · have hs := HS0.out
          have hI : ∀ w', Sem.run Tryd.prog (Instr.index 42 (.agg #[.int .i64 0, .int .i64 2, .int .i64 1, .int .i64 2, .int .i64 0, .int .i64 1]) (.int .i64 0)) w' = .ok (.agg #[.int .i64 0, .int .i64 2]) w' := fun w' => by kernel_rfl
          have hJ : ∀ (x y z : Int) w', Sem.run Tryd.prog (Instr.index 39 (.agg #[.int .i64 x, .int .i64 y, .int .i64 z]) (.int .i64 0)) w' = .ok (.int .i64 x) w' := fun x y z w' => by kernel_rfl
          have hA0 : (wr.alloc (.cells #[.int .i64 0, .int .i64 2] 41)).cell? ⟨gb, 0, none⟩ = some (.int .i64 n) := (blk_cell (blk_alloc BK.out _) 0).trans rfl
          have hA1 : (wr.alloc (.cells #[.int .i64 0, .int .i64 2] 41)).cell? ⟨gb, 1, none⟩ = some (.int .i64 a) := (blk_cell (blk_alloc BK.out _) 1).trans rfl
          have hA2 : (wr.alloc (.cells #[.int .i64 0, .int .i64 2] 41)).cell? ⟨gb, 2, none⟩ = some (.int .i64 b) := (blk_cell (blk_alloc BK.out _) 2).trans rfl
          obtain ⟨u, hu⟩ : ∃ u, u = stepI n a b t 80 := ⟨_, rfl⟩
          have hup : up a b 80 = b := rfl
          have HU := Aside0.mk hu
          have hut : isTri n u = true := by rw [hu]; exact step_tri HK.out 80
          have HW1 := Aside0.mk (show triads_Walk.f n a b t ⟨#[80]⟩ = some (u, 0) by rw [hu]; exact walk_one hn ha hb HK.out HTr.out 80 rfl)
          have HW2 := Aside0.mk (show triads_Walk.f n a b u ⟨#[80]⟩ = some (t, 0) by have e1 := walk_one hn ha hb HK.out hut 80 rfl; have e2 := step_twice HK.out HTr.out 80; rw [show (((80 : UInt8).toNat : Nat) : Int) = 80 from rfl] at e1 e2; rw [hu] at e1 ⊢; rw [e2] at e1; exact e1)
          have hTu := Tones_f (n := n) (a := a) (b := b) u hn ha hb
          rw [HK.out, hut] at hTu
          obtain ⟨k2, hT2⟩ := Ev.rounds hTu
          obtain ⟨V, hV⟩ : ∃ V : Int, V = ((tonesN n a b u : Nat) : Int) := ⟨_, rfl⟩
          have HT2 := Aside0.mk (show triads_Tones.f k2 n a b u = some (V, 0) by rw [hV]; exact hT2)
          obtain ⟨hq1, hq2, hq3⟩ := step_dark HK.out hge ht1 80
          rw [← hu] at hq1 hq3
          have hcmp : (u % n != (wrap64 ((wrap64 (x0 + -b)).tmod n + n)).tmod n) = false := by rw [HX0b.out, tone_said HK.out HTr.out (-b) (by omega) (by omega), hq3, hup]; simp
          obtain ⟨p0, hp0, hb0⟩ := bit_of (t := u) HK.out b (by simp) V x0 hV (HX0.out.trans (by rw [hu]; exact tone_kept HK.out HTr.out 80 0 b (by rw [hup]; all_goals omega)))
          obtain ⟨r0, hr0, hs0⟩ := bit_of (t := t) HK.out 0 (by simp) S x0 HS.out HX0.out
          obtain ⟨p1, hp1, hb1⟩ := bit_of (t := u) HK.out 0 (by simp) V x2 hV (HX2.out.trans (by rw [hu]; exact tone_kept HK.out HTr.out 80 b 0 (by rw [hup]; all_goals omega)))
          obtain ⟨r1, hr1, hs1⟩ := bit_of (t := t) HK.out b (by simp) S x2 HS.out HX2.out
          have hu0 : 0 ≤ u := (of_decide_eq_true hut).1
          have hu1 : u < 2 * n := (of_decide_eq_true hut).2
          have HQ1 := Aside0.mk hq1; have HQ2 := Aside0.mk hq2; have HCM := Aside0.mk hcmp
          have HP0 := Aside0.mk hp0; have HBT0 := Aside0.mk hb0; have HR0 := Aside0.mk hr0; have HST0 := Aside0.mk hs0
          have HP1 := Aside0.mk hp1; have HBT1 := Aside0.mk hb1; have HR1 := Aside0.mk hr1; have HST1 := Aside0.mk hs1
          clear hV hT2 hTu hu hup hut hq1 hq2 hq3 hcmp hp0 hb0 hr0 hs0 hp1 hb1 hr1 hs1
          go_wp2_with fail
          have BP := Aside0.mk (blk_new wr (.cells #[.int .i64 0, .int .i64 2] 41))
          have GP := Aside0.mk HB.out.size
          have HS0A := Aside0.mk ((World.cell?_alloc_lt wr (.cells #[.int .i64 0, .int .i64 2] 41) ⟨gs, 0, none⟩ (World.block_lt_of_cell? _ _ HS0.out)).trans HS0.out)
          have HS1A := Aside0.mk ((World.cell?_alloc_lt wr (.cells #[.int .i64 0, .int .i64 2] 41) ⟨gs, 1, none⟩ (World.block_lt_of_cell? _ _ HS1.out)).trans HS1.out)
          have HS2A := Aside0.mk ((World.cell?_alloc_lt wr (.cells #[.int .i64 0, .int .i64 2] 41) ⟨gs, 2, none⟩ (World.block_lt_of_cell? _ _ HS2.out)).trans HS2.out)
          have BKA := Aside0.mk (blk_alloc BK.out (.cells #[.int .i64 0, .int .i64 2] 41))
          have BTA := Aside0.mk (blk_alloc BT.out (.cells #[.int .i64 0, .int .i64 2] 41))
          have HBA := Aside0.mk (below_alloc HB.out (.cells #[.int .i64 0, .int .i64 2] 41))
          clear hA0 hA1 hA2 HS0 HS1 HS2 BK BT HB
          clear hc0_wr hf0_wr hc1_wr hf1_wr hc2_wr hf2_wr hd0_wr he0_wr hd1_wr he1_wr hd2_wr he2_wr hs
          generalize wr.alloc (.cells #[.int .i64 0, .int .i64 2] 41) = w8 at BP HS0A HS1A HS2A BKA BTA HBA ⊢
          generalize wr.heap.size = gp at BP GP ⊢
          have BK := BKA; have BT := BTA; have HB := HBA; have HS0 := HS0A; have HS1 := HS1A; have HS2 := HS2A
          clear BKA BTA HBA HS0A HS1A HS2A
          refine (sackbutlaw04_Of.calls n a b _ _ _ _ rfl).mono ?_
          rintro e_ w9 ⟨rfl, hb⟩
          have m0 := Aside0.mk (blk_below BK.out hb); have m1 := Aside0.mk (blk_below BT.out hb); have m2 := Aside0.mk (blk_below BP.out hb); have m3 := Aside0.mk (below_step HB.out hb)
          have m4 := Aside0.mk ((hb.cell (World.block_lt_of_cell? _ _ HS0.out)).trans HS0.out)
          have m5 := Aside0.mk ((hb.cell (World.block_lt_of_cell? _ _ HS1.out)).trans HS1.out)
          have m6 := Aside0.mk ((hb.cell (World.block_lt_of_cell? _ _ HS2.out)).trans HS2.out)
          clear BK BT BP HB HS0 HS1 HS2 hb
          have BK := m0; have BT := m1; have BP := m2; have HB := m3; have HS0 := m4; have HS1 := m5; have HS2 := m6
          clear m0 m1 m2 m3 m4 m5 m6
          have hc0_w9 : w9.cell? ⟨gb, 0, none⟩ = some (.int .i64 n) := (blk_cell BK.out 0).trans rfl
          have hf0_w9 := blk_frozen BK.out 0
          have hc1_w9 : w9.cell? ⟨gb, 1, none⟩ = some (.int .i64 a) := (blk_cell BK.out 1).trans rfl
          have hf1_w9 := blk_frozen BK.out 1
          have hc2_w9 : w9.cell? ⟨gb, 2, none⟩ = some (.int .i64 b) := (blk_cell BK.out 2).trans rfl
          have hf2_w9 := blk_frozen BK.out 2
          go_wp2_with fail
          refine (triads_Walk.calls n a b t ⟨#[80]⟩ u 0 _ HW1.out).mono ?_
          rintro e_ w10 ⟨rfl, hb⟩
          have m0 := Aside0.mk (blk_below BK.out hb); have m1 := Aside0.mk (blk_below BT.out hb); have m2 := Aside0.mk (blk_below BP.out hb); have m3 := Aside0.mk (below_step HB.out hb)
          have m4 := Aside0.mk ((hb.cell (World.block_lt_of_cell? _ _ HS0.out)).trans HS0.out)
          have m5 := Aside0.mk ((hb.cell (World.block_lt_of_cell? _ _ HS1.out)).trans HS1.out)
          have m6 := Aside0.mk ((hb.cell (World.block_lt_of_cell? _ _ HS2.out)).trans HS2.out)
          clear BK BT BP HB HS0 HS1 HS2 hb hc0_w9 hf0_w9 hc1_w9 hf1_w9 hc2_w9 hf2_w9
          have BK := m0; have BT := m1; have BP := m2; have HB := m3; have HS0 := m4; have HS1 := m5; have HS2 := m6
          clear m0 m1 m2 m3 m4 m5 m6
          have hc0_w10 : w10.cell? ⟨gb, 0, none⟩ = some (.int .i64 n) := (blk_cell BK.out 0).trans rfl
          have hf0_w10 := blk_frozen BK.out 0
          have hc1_w10 : w10.cell? ⟨gb, 1, none⟩ = some (.int .i64 a) := (blk_cell BK.out 1).trans rfl
          have hf1_w10 := blk_frozen BK.out 1
          have hc2_w10 : w10.cell? ⟨gb, 2, none⟩ = some (.int .i64 b) := (blk_cell BK.out 2).trans rfl
          have hf2_w10 := blk_frozen BK.out 2
          go_wp2_with fail
          refine (sackbutlaw04_Of.calls n a b _ _ _ _ rfl).mono ?_
          rintro e_ w11 ⟨rfl, hb⟩
          have m0 := Aside0.mk (blk_below BK.out hb); have m1 := Aside0.mk (blk_below BT.out hb); have m2 := Aside0.mk (blk_below BP.out hb); have m3 := Aside0.mk (below_step HB.out hb)
          have m4 := Aside0.mk ((hb.cell (World.block_lt_of_cell? _ _ HS0.out)).trans HS0.out)
          have m5 := Aside0.mk ((hb.cell (World.block_lt_of_cell? _ _ HS1.out)).trans HS1.out)
          have m6 := Aside0.mk ((hb.cell (World.block_lt_of_cell? _ _ HS2.out)).trans HS2.out)
          clear BK BT BP HB HS0 HS1 HS2 hb hc0_w10 hf0_w10 hc1_w10 hf1_w10 hc2_w10 hf2_w10
          have BK := m0; have BT := m1; have BP := m2; have HB := m3; have HS0 := m4; have HS1 := m5; have HS2 := m6
          clear m0 m1 m2 m3 m4 m5 m6
          have hc0_w11 : w11.cell? ⟨gb, 0, none⟩ = some (.int .i64 n) := (blk_cell BK.out 0).trans rfl
          have hf0_w11 := blk_frozen BK.out 0
          have hc1_w11 : w11.cell? ⟨gb, 1, none⟩ = some (.int .i64 a) := (blk_cell BK.out 1).trans rfl
          have hf1_w11 := blk_frozen BK.out 1
          have hc2_w11 : w11.cell? ⟨gb, 2, none⟩ = some (.int .i64 b) := (blk_cell BK.out 2).trans rfl
          have hf2_w11 := blk_frozen BK.out 2
          go_wp2_with fail
          refine (triads_Walk.calls n a b u ⟨#[80]⟩ t 0 _ HW2.out).mono ?_
          rintro e_ w12 ⟨rfl, hb⟩
          have m0 := Aside0.mk (blk_below BK.out hb); have m1 := Aside0.mk (blk_below BT.out hb); have m2 := Aside0.mk (blk_below BP.out hb); have m3 := Aside0.mk (below_step HB.out hb)
          have m4 := Aside0.mk ((hb.cell (World.block_lt_of_cell? _ _ HS0.out)).trans HS0.out)
          have m5 := Aside0.mk ((hb.cell (World.block_lt_of_cell? _ _ HS1.out)).trans HS1.out)
          have m6 := Aside0.mk ((hb.cell (World.block_lt_of_cell? _ _ HS2.out)).trans HS2.out)
          clear BK BT BP HB HS0 HS1 HS2 hb hc0_w11 hf0_w11 hc1_w11 hf1_w11 hc2_w11 hf2_w11
          have BK := m0; have BT := m1; have BP := m2; have HB := m3; have HS0 := m4; have HS1 := m5; have HS2 := m6
          clear m0 m1 m2 m3 m4 m5 m6
          have hc0_w12 : w12.cell? ⟨gb, 0, none⟩ = some (.int .i64 n) := (blk_cell BK.out 0).trans rfl
          have hf0_w12 := blk_frozen BK.out 0
          have hc1_w12 : w12.cell? ⟨gb, 1, none⟩ = some (.int .i64 a) := (blk_cell BK.out 1).trans rfl
          have hf1_w12 := blk_frozen BK.out 1
          have hc2_w12 : w12.cell? ⟨gb, 2, none⟩ = some (.int .i64 b) := (blk_cell BK.out 2).trans rfl
          have hf2_w12 := blk_frozen BK.out 2
          go_wp2_with fail
          refine (sackbutlaw04_Of.calls n a b _ _ _ _ rfl).mono ?_
          rintro e_ w13 ⟨rfl, hb⟩
          have m0 := Aside0.mk (blk_below BK.out hb); have m1 := Aside0.mk (blk_below BT.out hb); have m2 := Aside0.mk (blk_below BP.out hb); have m3 := Aside0.mk (below_step HB.out hb)
          have m4 := Aside0.mk ((hb.cell (World.block_lt_of_cell? _ _ HS0.out)).trans HS0.out)
          have m5 := Aside0.mk ((hb.cell (World.block_lt_of_cell? _ _ HS1.out)).trans HS1.out)
          have m6 := Aside0.mk ((hb.cell (World.block_lt_of_cell? _ _ HS2.out)).trans HS2.out)
          clear BK BT BP HB HS0 HS1 HS2 hb hc0_w12 hf0_w12 hc1_w12 hf1_w12 hc2_w12 hf2_w12
          have BK := m0; have BT := m1; have BP := m2; have HB := m3; have HS0 := m4; have HS1 := m5; have HS2 := m6
          clear m0 m1 m2 m3 m4 m5 m6
          have hc0_w13 : w13.cell? ⟨gb, 0, none⟩ = some (.int .i64 n) := (blk_cell BK.out 0).trans rfl
          have hf0_w13 := blk_frozen BK.out 0
          have hc1_w13 : w13.cell? ⟨gb, 1, none⟩ = some (.int .i64 a) := (blk_cell BK.out 1).trans rfl
          have hf1_w13 := blk_frozen BK.out 1
          have hc2_w13 : w13.cell? ⟨gb, 2, none⟩ = some (.int .i64 b) := (blk_cell BK.out 2).trans rfl
          have hf2_w13 := blk_frozen BK.out 2
          go_wp2_with fail
          refine (triads_Tones.calls k2 n a b u V 0 _ HT2.out).mono ?_
          rintro e_ w14 ⟨rfl, hb⟩
          have m0 := Aside0.mk (blk_below BK.out hb); have m1 := Aside0.mk (blk_below BT.out hb); have m2 := Aside0.mk (blk_below BP.out hb); have m3 := Aside0.mk (below_step HB.out hb)
          have m4 := Aside0.mk ((hb.cell (World.block_lt_of_cell? _ _ HS0.out)).trans HS0.out)
          have m5 := Aside0.mk ((hb.cell (World.block_lt_of_cell? _ _ HS1.out)).trans HS1.out)
          have m6 := Aside0.mk ((hb.cell (World.block_lt_of_cell? _ _ HS2.out)).trans HS2.out)
          clear BK BT BP HB HS0 HS1 HS2 hb hc0_w13 hf0_w13 hc1_w13 hf1_w13 hc2_w13 hf2_w13
          have BK := m0; have BT := m1; have BP := m2; have HB := m3; have HS0 := m4; have HS1 := m5; have HS2 := m6
          clear m0 m1 m2 m3 m4 m5 m6
          have hc0_w14 : w14.cell? ⟨gb, 0, none⟩ = some (.int .i64 n) := (blk_cell BK.out 0).trans rfl
          have hf0_w14 := blk_frozen BK.out 0
          have hc1_w14 : w14.cell? ⟨gb, 1, none⟩ = some (.int .i64 a) := (blk_cell BK.out 1).trans rfl
          have hf1_w14 := blk_frozen BK.out 1
          have hc2_w14 : w14.cell? ⟨gb, 2, none⟩ = some (.int .i64 b) := (blk_cell BK.out 2).trans rfl
          have hf2_w14 := blk_frozen BK.out 2
          have hq1 := HQ1.out; have hq2 := HQ2.out; have hcmp := HCM.out
          go_wp2_with fail
          go_region
          have hp0 : w14.cell? ⟨gp, 0, none⟩ = some (.int .i64 0) := (blk_cell BP.out 0).trans rfl
          have hp1 : w14.cell? ⟨gp, 1, none⟩ = some (.int .i64 2) := (blk_cell BP.out 1).trans rfl
          have hpd0 : w14.drew.cell? ⟨gp, 0, none⟩ = some (.int .i64 0) := hp0
          have hpd1 : w14.drew.cell? ⟨gp, 1, none⟩ = some (.int .i64 2) := hp1
          go_wp2_with fail
          clear hp0 hp1 hpd0 hpd1 hq1 hq2 hcmp hI hJ hc0_w14 hf0_w14 hc1_w14 hf1_w14 hc2_w14 hf2_w14
          obtain ⟨wo, rfl⟩ : ∃ wo : World, wo = wr := ⟨_, rfl⟩
          obtain ⟨gq, rfl⟩ : ∃ gq : Nat, gq = gk := ⟨_, rfl⟩
          go_loopg [169] 2 (fun gk2 v wr2 => ∃ i : Nat, gk2 + i = 2 ∧ v = .int .i64 (i : Int) ∧ Aside0 (wr2.heap[gb]? = some (.cells #[.int .i64 n, .int .i64 a, .int .i64 b] 23 (0, 0))) ∧ Aside0 (wr2.heap[gt]? = some (.cells #[.int .i64 x0, .int .i64 x1, .int .i64 x2] 39 (0, 0))) ∧ Aside0 (wr2.cell? ⟨gs, 0, none⟩ = some (.string ⟨#[80]⟩)) ∧ Aside0 (wr2.cell? ⟨gs, 1, none⟩ = some (.string ⟨#[76]⟩)) ∧ Aside0 (wr2.cell? ⟨gs, 2, none⟩ = some (.string ⟨#[82]⟩)) ∧ Aside0 (Below w.heap.size w wr2))
          case atStart => exact ⟨0, rfl, rfl, BK, BT, HS0, HS1, HS2, ⟨HB.out.drew⟩⟩
          case round =>
            clear BK BT HS0 HS1 HS2 HB BP
            obtain ⟨i, hgi, rfl, BK, BT, HS0, HS1, HS2, HB⟩ := hrel
            have hc0_wr : wr.cell? ⟨gb, 0, none⟩ = some (.int .i64 n) := (blk_cell BK.out 0).trans rfl
            have hf0_wr := blk_frozen BK.out 0
            have hc1_wr : wr.cell? ⟨gb, 1, none⟩ = some (.int .i64 a) := (blk_cell BK.out 1).trans rfl
            have hf1_wr := blk_frozen BK.out 1
            have hc2_wr : wr.cell? ⟨gb, 2, none⟩ = some (.int .i64 b) := (blk_cell BK.out 2).trans rfl
            have hf2_wr := blk_frozen BK.out 2
            have hd0_wr : wr.cell? ⟨gt, 0, none⟩ = some (.int .i64 x0) := (blk_cell BT.out 0).trans rfl
            have he0_wr := blk_frozen BT.out 0
            have hd1_wr : wr.cell? ⟨gt, 1, none⟩ = some (.int .i64 x1) := (blk_cell BT.out 1).trans rfl
            have he1_wr := blk_frozen BT.out 1
            have hd2_wr : wr.cell? ⟨gt, 2, none⟩ = some (.int .i64 x2) := (blk_cell BT.out 2).trans rfl
            have he2_wr := blk_frozen BT.out 2
            rcases (show i = 0 ∨ i = 1 ∨ i = 2 by omega) with rfl | rfl | rfl
            · have hI2 : ∀ w', Sem.run Tryd.prog (Instr.index 41 (.agg #[.int .i64 0, .int .i64 2]) (.int .i64 0)) w' = .ok (.int .i64 0) w' := fun w' => by kernel_rfl
              have hp := HP0.out; have hbt := HBT0.out; have hr := HR0.out; have hst := HST0.out
              go_wp2_with fail
              go_roundg (gk - 1)
              case measure => omega
              case rel => exact ⟨1, by omega, rfl, BK, BT, HS0, HS1, HS2, HB⟩
            · have hI2 : ∀ w', Sem.run Tryd.prog (Instr.index 41 (.agg #[.int .i64 0, .int .i64 2]) (.int .i64 1)) w' = .ok (.int .i64 2) w' := fun w' => by kernel_rfl
              have hp := HP1.out; have hbt := HBT1.out; have hr := HR1.out; have hst := HST1.out
              go_wp2_with fail
              go_roundg (gk - 1)
              case measure => omega
              case rel => exact ⟨2, by omega, rfl, BK, BT, HS0, HS1, HS2, HB⟩
            · go_wp2_with fail
              go_roundg (gq - 1)
              case measure => omega
              case rel => exact ⟨1, by omega, rfl, BK, BT, HS0, HS1, HS2, HB⟩
        · have hs := HS1.out
          have hI : ∀ w', Sem.run Tryd.prog (Instr.index 42 (.agg #[.int .i64 0, .int .i64 2, .int .i64 1, .int .i64 2, .int .i64 0, .int .i64 1]) (.int .i64 1)) w' = .ok (.agg #[.int .i64 1, .int .i64 2]) w' := fun w' => by kernel_rfl
          have hJ : ∀ (x y z : Int) w', Sem.run Tryd.prog (Instr.index 39 (.agg #[.int .i64 x, .int .i64 y, .int .i64 z]) (.int .i64 1)) w' = .ok (.int .i64 y) w' := fun x y z w' => by kernel_rfl
          have hA0 : (wr.alloc (.cells #[.int .i64 1, .int .i64 2] 41)).cell? ⟨gb, 0, none⟩ = some (.int .i64 n) := (blk_cell (blk_alloc BK.out _) 0).trans rfl
          have hA1 : (wr.alloc (.cells #[.int .i64 1, .int .i64 2] 41)).cell? ⟨gb, 1, none⟩ = some (.int .i64 a) := (blk_cell (blk_alloc BK.out _) 1).trans rfl
          have hA2 : (wr.alloc (.cells #[.int .i64 1, .int .i64 2] 41)).cell? ⟨gb, 2, none⟩ = some (.int .i64 b) := (blk_cell (blk_alloc BK.out _) 2).trans rfl
          obtain ⟨u, hu⟩ : ∃ u, u = stepI n a b t 76 := ⟨_, rfl⟩
          have hup : up a b 76 = a + b := rfl
          have HU := Aside0.mk hu
          have hut : isTri n u = true := by rw [hu]; exact step_tri HK.out 76
          have HW1 := Aside0.mk (show triads_Walk.f n a b t ⟨#[76]⟩ = some (u, 0) by rw [hu]; exact walk_one hn ha hb HK.out HTr.out 76 rfl)
          have HW2 := Aside0.mk (show triads_Walk.f n a b u ⟨#[76]⟩ = some (t, 0) by have e1 := walk_one hn ha hb HK.out hut 76 rfl; have e2 := step_twice HK.out HTr.out 76; rw [show (((76 : UInt8).toNat : Nat) : Int) = 76 from rfl] at e1 e2; rw [hu] at e1 ⊢; rw [e2] at e1; exact e1)
          have hTu := Tones_f (n := n) (a := a) (b := b) u hn ha hb
          rw [HK.out, hut] at hTu
          obtain ⟨k2, hT2⟩ := Ev.rounds hTu
          obtain ⟨V, hV⟩ : ∃ V : Int, V = ((tonesN n a b u : Nat) : Int) := ⟨_, rfl⟩
          have HT2 := Aside0.mk (show triads_Tones.f k2 n a b u = some (V, 0) by rw [hV]; exact hT2)
          obtain ⟨hq1, hq2, hq3⟩ := step_dark HK.out hge ht1 76
          rw [← hu] at hq1 hq3
          have hcmp : (u % n != (wrap64 ((wrap64 (x0 + -(a + b))).tmod n + n)).tmod n) = false := by rw [HX0b.out, tone_said HK.out HTr.out (-(a + b)) (by omega) (by omega), hq3, hup]; simp
          obtain ⟨p0, hp0, hb0⟩ := bit_of (t := u) HK.out b (by simp) V x1 hV (HX1.out.trans (by rw [hu]; exact tone_kept HK.out HTr.out 76 a b (by rw [hup]; all_goals omega)))
          obtain ⟨r0, hr0, hs0⟩ := bit_of (t := t) HK.out a (by simp) S x1 HS.out HX1.out
          obtain ⟨p1, hp1, hb1⟩ := bit_of (t := u) HK.out a (by simp) V x2 hV (HX2.out.trans (by rw [hu]; exact tone_kept HK.out HTr.out 76 b a (by rw [hup]; all_goals omega)))
          obtain ⟨r1, hr1, hs1⟩ := bit_of (t := t) HK.out b (by simp) S x2 HS.out HX2.out
          have hu0 : 0 ≤ u := (of_decide_eq_true hut).1
          have hu1 : u < 2 * n := (of_decide_eq_true hut).2
          have HQ1 := Aside0.mk hq1; have HQ2 := Aside0.mk hq2; have HCM := Aside0.mk hcmp
          have HP0 := Aside0.mk hp0; have HBT0 := Aside0.mk hb0; have HR0 := Aside0.mk hr0; have HST0 := Aside0.mk hs0
          have HP1 := Aside0.mk hp1; have HBT1 := Aside0.mk hb1; have HR1 := Aside0.mk hr1; have HST1 := Aside0.mk hs1
          clear hV hT2 hTu hu hup hut hq1 hq2 hq3 hcmp hp0 hb0 hr0 hs0 hp1 hb1 hr1 hs1
          go_wp2_with fail
          have BP := Aside0.mk (blk_new wr (.cells #[.int .i64 1, .int .i64 2] 41))
          have GP := Aside0.mk HB.out.size
          have HS0A := Aside0.mk ((World.cell?_alloc_lt wr (.cells #[.int .i64 1, .int .i64 2] 41) ⟨gs, 0, none⟩ (World.block_lt_of_cell? _ _ HS0.out)).trans HS0.out)
          have HS1A := Aside0.mk ((World.cell?_alloc_lt wr (.cells #[.int .i64 1, .int .i64 2] 41) ⟨gs, 1, none⟩ (World.block_lt_of_cell? _ _ HS1.out)).trans HS1.out)
          have HS2A := Aside0.mk ((World.cell?_alloc_lt wr (.cells #[.int .i64 1, .int .i64 2] 41) ⟨gs, 2, none⟩ (World.block_lt_of_cell? _ _ HS2.out)).trans HS2.out)
          have BKA := Aside0.mk (blk_alloc BK.out (.cells #[.int .i64 1, .int .i64 2] 41))
          have BTA := Aside0.mk (blk_alloc BT.out (.cells #[.int .i64 1, .int .i64 2] 41))
          have HBA := Aside0.mk (below_alloc HB.out (.cells #[.int .i64 1, .int .i64 2] 41))
          clear hA0 hA1 hA2 HS0 HS1 HS2 BK BT HB
          clear hc0_wr hf0_wr hc1_wr hf1_wr hc2_wr hf2_wr hd0_wr he0_wr hd1_wr he1_wr hd2_wr he2_wr hs
          generalize wr.alloc (.cells #[.int .i64 1, .int .i64 2] 41) = w8 at BP HS0A HS1A HS2A BKA BTA HBA ⊢
          generalize wr.heap.size = gp at BP GP ⊢
          have BK := BKA; have BT := BTA; have HB := HBA; have HS0 := HS0A; have HS1 := HS1A; have HS2 := HS2A
          clear BKA BTA HBA HS0A HS1A HS2A
          refine (sackbutlaw04_Of.calls n a b _ _ _ _ rfl).mono ?_
          rintro e_ w9 ⟨rfl, hb⟩
          have m0 := Aside0.mk (blk_below BK.out hb); have m1 := Aside0.mk (blk_below BT.out hb); have m2 := Aside0.mk (blk_below BP.out hb); have m3 := Aside0.mk (below_step HB.out hb)
          have m4 := Aside0.mk ((hb.cell (World.block_lt_of_cell? _ _ HS0.out)).trans HS0.out)
          have m5 := Aside0.mk ((hb.cell (World.block_lt_of_cell? _ _ HS1.out)).trans HS1.out)
          have m6 := Aside0.mk ((hb.cell (World.block_lt_of_cell? _ _ HS2.out)).trans HS2.out)
          clear BK BT BP HB HS0 HS1 HS2 hb
          have BK := m0; have BT := m1; have BP := m2; have HB := m3; have HS0 := m4; have HS1 := m5; have HS2 := m6
          clear m0 m1 m2 m3 m4 m5 m6
          have hc0_w9 : w9.cell? ⟨gb, 0, none⟩ = some (.int .i64 n) := (blk_cell BK.out 0).trans rfl
          have hf0_w9 := blk_frozen BK.out 0
          have hc1_w9 : w9.cell? ⟨gb, 1, none⟩ = some (.int .i64 a) := (blk_cell BK.out 1).trans rfl
          have hf1_w9 := blk_frozen BK.out 1
          have hc2_w9 : w9.cell? ⟨gb, 2, none⟩ = some (.int .i64 b) := (blk_cell BK.out 2).trans rfl
          have hf2_w9 := blk_frozen BK.out 2
          go_wp2_with fail
          refine (triads_Walk.calls n a b t ⟨#[76]⟩ u 0 _ HW1.out).mono ?_
          rintro e_ w10 ⟨rfl, hb⟩
          have m0 := Aside0.mk (blk_below BK.out hb); have m1 := Aside0.mk (blk_below BT.out hb); have m2 := Aside0.mk (blk_below BP.out hb); have m3 := Aside0.mk (below_step HB.out hb)
          have m4 := Aside0.mk ((hb.cell (World.block_lt_of_cell? _ _ HS0.out)).trans HS0.out)
          have m5 := Aside0.mk ((hb.cell (World.block_lt_of_cell? _ _ HS1.out)).trans HS1.out)
          have m6 := Aside0.mk ((hb.cell (World.block_lt_of_cell? _ _ HS2.out)).trans HS2.out)
          clear BK BT BP HB HS0 HS1 HS2 hb hc0_w9 hf0_w9 hc1_w9 hf1_w9 hc2_w9 hf2_w9
          have BK := m0; have BT := m1; have BP := m2; have HB := m3; have HS0 := m4; have HS1 := m5; have HS2 := m6
          clear m0 m1 m2 m3 m4 m5 m6
          have hc0_w10 : w10.cell? ⟨gb, 0, none⟩ = some (.int .i64 n) := (blk_cell BK.out 0).trans rfl
          have hf0_w10 := blk_frozen BK.out 0
          have hc1_w10 : w10.cell? ⟨gb, 1, none⟩ = some (.int .i64 a) := (blk_cell BK.out 1).trans rfl
          have hf1_w10 := blk_frozen BK.out 1
          have hc2_w10 : w10.cell? ⟨gb, 2, none⟩ = some (.int .i64 b) := (blk_cell BK.out 2).trans rfl
          have hf2_w10 := blk_frozen BK.out 2
          go_wp2_with fail
          refine (sackbutlaw04_Of.calls n a b _ _ _ _ rfl).mono ?_
          rintro e_ w11 ⟨rfl, hb⟩
          have m0 := Aside0.mk (blk_below BK.out hb); have m1 := Aside0.mk (blk_below BT.out hb); have m2 := Aside0.mk (blk_below BP.out hb); have m3 := Aside0.mk (below_step HB.out hb)
          have m4 := Aside0.mk ((hb.cell (World.block_lt_of_cell? _ _ HS0.out)).trans HS0.out)
          have m5 := Aside0.mk ((hb.cell (World.block_lt_of_cell? _ _ HS1.out)).trans HS1.out)
          have m6 := Aside0.mk ((hb.cell (World.block_lt_of_cell? _ _ HS2.out)).trans HS2.out)
          clear BK BT BP HB HS0 HS1 HS2 hb hc0_w10 hf0_w10 hc1_w10 hf1_w10 hc2_w10 hf2_w10
          have BK := m0; have BT := m1; have BP := m2; have HB := m3; have HS0 := m4; have HS1 := m5; have HS2 := m6
          clear m0 m1 m2 m3 m4 m5 m6
          have hc0_w11 : w11.cell? ⟨gb, 0, none⟩ = some (.int .i64 n) := (blk_cell BK.out 0).trans rfl
          have hf0_w11 := blk_frozen BK.out 0
          have hc1_w11 : w11.cell? ⟨gb, 1, none⟩ = some (.int .i64 a) := (blk_cell BK.out 1).trans rfl
          have hf1_w11 := blk_frozen BK.out 1
          have hc2_w11 : w11.cell? ⟨gb, 2, none⟩ = some (.int .i64 b) := (blk_cell BK.out 2).trans rfl
          have hf2_w11 := blk_frozen BK.out 2
          go_wp2_with fail
          refine (triads_Walk.calls n a b u ⟨#[76]⟩ t 0 _ HW2.out).mono ?_
          rintro e_ w12 ⟨rfl, hb⟩
          have m0 := Aside0.mk (blk_below BK.out hb); have m1 := Aside0.mk (blk_below BT.out hb); have m2 := Aside0.mk (blk_below BP.out hb); have m3 := Aside0.mk (below_step HB.out hb)
          have m4 := Aside0.mk ((hb.cell (World.block_lt_of_cell? _ _ HS0.out)).trans HS0.out)
          have m5 := Aside0.mk ((hb.cell (World.block_lt_of_cell? _ _ HS1.out)).trans HS1.out)
          have m6 := Aside0.mk ((hb.cell (World.block_lt_of_cell? _ _ HS2.out)).trans HS2.out)
          clear BK BT BP HB HS0 HS1 HS2 hb hc0_w11 hf0_w11 hc1_w11 hf1_w11 hc2_w11 hf2_w11
          have BK := m0; have BT := m1; have BP := m2; have HB := m3; have HS0 := m4; have HS1 := m5; have HS2 := m6
          clear m0 m1 m2 m3 m4 m5 m6
          have hc0_w12 : w12.cell? ⟨gb, 0, none⟩ = some (.int .i64 n) := (blk_cell BK.out 0).trans rfl
          have hf0_w12 := blk_frozen BK.out 0
          have hc1_w12 : w12.cell? ⟨gb, 1, none⟩ = some (.int .i64 a) := (blk_cell BK.out 1).trans rfl
          have hf1_w12 := blk_frozen BK.out 1
          have hc2_w12 : w12.cell? ⟨gb, 2, none⟩ = some (.int .i64 b) := (blk_cell BK.out 2).trans rfl
          have hf2_w12 := blk_frozen BK.out 2
          go_wp2_with fail
          refine (sackbutlaw04_Of.calls n a b _ _ _ _ rfl).mono ?_
          rintro e_ w13 ⟨rfl, hb⟩
          have m0 := Aside0.mk (blk_below BK.out hb); have m1 := Aside0.mk (blk_below BT.out hb); have m2 := Aside0.mk (blk_below BP.out hb); have m3 := Aside0.mk (below_step HB.out hb)
          have m4 := Aside0.mk ((hb.cell (World.block_lt_of_cell? _ _ HS0.out)).trans HS0.out)
          have m5 := Aside0.mk ((hb.cell (World.block_lt_of_cell? _ _ HS1.out)).trans HS1.out)
          have m6 := Aside0.mk ((hb.cell (World.block_lt_of_cell? _ _ HS2.out)).trans HS2.out)
          clear BK BT BP HB HS0 HS1 HS2 hb hc0_w12 hf0_w12 hc1_w12 hf1_w12 hc2_w12 hf2_w12
          have BK := m0; have BT := m1; have BP := m2; have HB := m3; have HS0 := m4; have HS1 := m5; have HS2 := m6
          clear m0 m1 m2 m3 m4 m5 m6
          have hc0_w13 : w13.cell? ⟨gb, 0, none⟩ = some (.int .i64 n) := (blk_cell BK.out 0).trans rfl
          have hf0_w13 := blk_frozen BK.out 0
          have hc1_w13 : w13.cell? ⟨gb, 1, none⟩ = some (.int .i64 a) := (blk_cell BK.out 1).trans rfl
          have hf1_w13 := blk_frozen BK.out 1
          have hc2_w13 : w13.cell? ⟨gb, 2, none⟩ = some (.int .i64 b) := (blk_cell BK.out 2).trans rfl
          have hf2_w13 := blk_frozen BK.out 2
          go_wp2_with fail
          refine (triads_Tones.calls k2 n a b u V 0 _ HT2.out).mono ?_
          rintro e_ w14 ⟨rfl, hb⟩
          have m0 := Aside0.mk (blk_below BK.out hb); have m1 := Aside0.mk (blk_below BT.out hb); have m2 := Aside0.mk (blk_below BP.out hb); have m3 := Aside0.mk (below_step HB.out hb)
          have m4 := Aside0.mk ((hb.cell (World.block_lt_of_cell? _ _ HS0.out)).trans HS0.out)
          have m5 := Aside0.mk ((hb.cell (World.block_lt_of_cell? _ _ HS1.out)).trans HS1.out)
          have m6 := Aside0.mk ((hb.cell (World.block_lt_of_cell? _ _ HS2.out)).trans HS2.out)
          clear BK BT BP HB HS0 HS1 HS2 hb hc0_w13 hf0_w13 hc1_w13 hf1_w13 hc2_w13 hf2_w13
          have BK := m0; have BT := m1; have BP := m2; have HB := m3; have HS0 := m4; have HS1 := m5; have HS2 := m6
          clear m0 m1 m2 m3 m4 m5 m6
          have hc0_w14 : w14.cell? ⟨gb, 0, none⟩ = some (.int .i64 n) := (blk_cell BK.out 0).trans rfl
          have hf0_w14 := blk_frozen BK.out 0
          have hc1_w14 : w14.cell? ⟨gb, 1, none⟩ = some (.int .i64 a) := (blk_cell BK.out 1).trans rfl
          have hf1_w14 := blk_frozen BK.out 1
          have hc2_w14 : w14.cell? ⟨gb, 2, none⟩ = some (.int .i64 b) := (blk_cell BK.out 2).trans rfl
          have hf2_w14 := blk_frozen BK.out 2
          have hq1 := HQ1.out; have hq2 := HQ2.out; have hcmp := HCM.out
          go_wp2_with fail
          go_region
          have hp0 : w14.cell? ⟨gp, 0, none⟩ = some (.int .i64 1) := (blk_cell BP.out 0).trans rfl
          have hp1 : w14.cell? ⟨gp, 1, none⟩ = some (.int .i64 2) := (blk_cell BP.out 1).trans rfl
          have hpd0 : w14.drew.cell? ⟨gp, 0, none⟩ = some (.int .i64 1) := hp0
          have hpd1 : w14.drew.cell? ⟨gp, 1, none⟩ = some (.int .i64 2) := hp1
          go_wp2_with fail
          clear hp0 hp1 hpd0 hpd1 hq1 hq2 hcmp hI hJ hc0_w14 hf0_w14 hc1_w14 hf1_w14 hc2_w14 hf2_w14
          obtain ⟨wo, rfl⟩ : ∃ wo : World, wo = wr := ⟨_, rfl⟩
          obtain ⟨gq, rfl⟩ : ∃ gq : Nat, gq = gk := ⟨_, rfl⟩
          go_loopg [169] 2 (fun gk2 v wr2 => ∃ i : Nat, gk2 + i = 2 ∧ v = .int .i64 (i : Int) ∧ Aside0 (wr2.heap[gb]? = some (.cells #[.int .i64 n, .int .i64 a, .int .i64 b] 23 (0, 0))) ∧ Aside0 (wr2.heap[gt]? = some (.cells #[.int .i64 x0, .int .i64 x1, .int .i64 x2] 39 (0, 0))) ∧ Aside0 (wr2.cell? ⟨gs, 0, none⟩ = some (.string ⟨#[80]⟩)) ∧ Aside0 (wr2.cell? ⟨gs, 1, none⟩ = some (.string ⟨#[76]⟩)) ∧ Aside0 (wr2.cell? ⟨gs, 2, none⟩ = some (.string ⟨#[82]⟩)) ∧ Aside0 (Below w.heap.size w wr2))
          case atStart => exact ⟨0, rfl, rfl, BK, BT, HS0, HS1, HS2, ⟨HB.out.drew⟩⟩
          case round =>
            clear BK BT HS0 HS1 HS2 HB BP
            obtain ⟨i, hgi, rfl, BK, BT, HS0, HS1, HS2, HB⟩ := hrel
            have hc0_wr : wr.cell? ⟨gb, 0, none⟩ = some (.int .i64 n) := (blk_cell BK.out 0).trans rfl
            have hf0_wr := blk_frozen BK.out 0
            have hc1_wr : wr.cell? ⟨gb, 1, none⟩ = some (.int .i64 a) := (blk_cell BK.out 1).trans rfl
            have hf1_wr := blk_frozen BK.out 1
            have hc2_wr : wr.cell? ⟨gb, 2, none⟩ = some (.int .i64 b) := (blk_cell BK.out 2).trans rfl
            have hf2_wr := blk_frozen BK.out 2
            have hd0_wr : wr.cell? ⟨gt, 0, none⟩ = some (.int .i64 x0) := (blk_cell BT.out 0).trans rfl
            have he0_wr := blk_frozen BT.out 0
            have hd1_wr : wr.cell? ⟨gt, 1, none⟩ = some (.int .i64 x1) := (blk_cell BT.out 1).trans rfl
            have he1_wr := blk_frozen BT.out 1
            have hd2_wr : wr.cell? ⟨gt, 2, none⟩ = some (.int .i64 x2) := (blk_cell BT.out 2).trans rfl
            have he2_wr := blk_frozen BT.out 2
            rcases (show i = 0 ∨ i = 1 ∨ i = 2 by omega) with rfl | rfl | rfl
            · have hI2 : ∀ w', Sem.run Tryd.prog (Instr.index 41 (.agg #[.int .i64 1, .int .i64 2]) (.int .i64 0)) w' = .ok (.int .i64 1) w' := fun w' => by kernel_rfl
              have hp := HP0.out; have hbt := HBT0.out; have hr := HR0.out; have hst := HST0.out
              go_wp2_with fail
              go_roundg (gk - 1)
              case measure => omega
              case rel => exact ⟨1, by omega, rfl, BK, BT, HS0, HS1, HS2, HB⟩
            · have hI2 : ∀ w', Sem.run Tryd.prog (Instr.index 41 (.agg #[.int .i64 1, .int .i64 2]) (.int .i64 1)) w' = .ok (.int .i64 2) w' := fun w' => by kernel_rfl
              have hp := HP1.out; have hbt := HBT1.out; have hr := HR1.out; have hst := HST1.out
              go_wp2_with fail
              go_roundg (gk - 1)
              case measure => omega
              case rel => exact ⟨2, by omega, rfl, BK, BT, HS0, HS1, HS2, HB⟩
            · go_wp2_with fail
              go_roundg (gq - 1)
              case measure => omega
              case rel => exact ⟨2, by omega, rfl, BK, BT, HS0, HS1, HS2, HB⟩
        · have hs := HS2.out
          have hI : ∀ w', Sem.run Tryd.prog (Instr.index 42 (.agg #[.int .i64 0, .int .i64 2, .int .i64 1, .int .i64 2, .int .i64 0, .int .i64 1]) (.int .i64 2)) w' = .ok (.agg #[.int .i64 0, .int .i64 1]) w' := fun w' => by kernel_rfl
          have hJ : ∀ (x y z : Int) w', Sem.run Tryd.prog (Instr.index 39 (.agg #[.int .i64 x, .int .i64 y, .int .i64 z]) (.int .i64 2)) w' = .ok (.int .i64 z) w' := fun x y z w' => by kernel_rfl
          have hA0 : (wr.alloc (.cells #[.int .i64 0, .int .i64 1] 41)).cell? ⟨gb, 0, none⟩ = some (.int .i64 n) := (blk_cell (blk_alloc BK.out _) 0).trans rfl
          have hA1 : (wr.alloc (.cells #[.int .i64 0, .int .i64 1] 41)).cell? ⟨gb, 1, none⟩ = some (.int .i64 a) := (blk_cell (blk_alloc BK.out _) 1).trans rfl
          have hA2 : (wr.alloc (.cells #[.int .i64 0, .int .i64 1] 41)).cell? ⟨gb, 2, none⟩ = some (.int .i64 b) := (blk_cell (blk_alloc BK.out _) 2).trans rfl
          obtain ⟨u, hu⟩ : ∃ u, u = stepI n a b t 82 := ⟨_, rfl⟩
          have hup : up a b 82 = a := rfl
          have HU := Aside0.mk hu
          have hut : isTri n u = true := by rw [hu]; exact step_tri HK.out 82
          have HW1 := Aside0.mk (show triads_Walk.f n a b t ⟨#[82]⟩ = some (u, 0) by rw [hu]; exact walk_one hn ha hb HK.out HTr.out 82 rfl)
          have HW2 := Aside0.mk (show triads_Walk.f n a b u ⟨#[82]⟩ = some (t, 0) by have e1 := walk_one hn ha hb HK.out hut 82 rfl; have e2 := step_twice HK.out HTr.out 82; rw [show (((82 : UInt8).toNat : Nat) : Int) = 82 from rfl] at e1 e2; rw [hu] at e1 ⊢; rw [e2] at e1; exact e1)
          have hTu := Tones_f (n := n) (a := a) (b := b) u hn ha hb
          rw [HK.out, hut] at hTu
          obtain ⟨k2, hT2⟩ := Ev.rounds hTu
          obtain ⟨V, hV⟩ : ∃ V : Int, V = ((tonesN n a b u : Nat) : Int) := ⟨_, rfl⟩
          have HT2 := Aside0.mk (show triads_Tones.f k2 n a b u = some (V, 0) by rw [hV]; exact hT2)
          obtain ⟨hq1, hq2, hq3⟩ := step_dark HK.out hge ht1 82
          rw [← hu] at hq1 hq3
          have hcmp : (u % n != (wrap64 ((wrap64 (x0 + -a)).tmod n + n)).tmod n) = false := by rw [HX0b.out, tone_said HK.out HTr.out (-a) (by omega) (by omega), hq3, hup]; simp
          obtain ⟨p0, hp0, hb0⟩ := bit_of (t := u) HK.out a (by simp) V x0 hV (HX0.out.trans (by rw [hu]; exact tone_kept HK.out HTr.out 82 0 a (by rw [hup]; all_goals omega)))
          obtain ⟨r0, hr0, hs0⟩ := bit_of (t := t) HK.out 0 (by simp) S x0 HS.out HX0.out
          obtain ⟨p1, hp1, hb1⟩ := bit_of (t := u) HK.out 0 (by simp) V x1 hV (HX1.out.trans (by rw [hu]; exact tone_kept HK.out HTr.out 82 a 0 (by rw [hup]; all_goals omega)))
          obtain ⟨r1, hr1, hs1⟩ := bit_of (t := t) HK.out a (by simp) S x1 HS.out HX1.out
          have hu0 : 0 ≤ u := (of_decide_eq_true hut).1
          have hu1 : u < 2 * n := (of_decide_eq_true hut).2
          have HQ1 := Aside0.mk hq1; have HQ2 := Aside0.mk hq2; have HCM := Aside0.mk hcmp
          have HP0 := Aside0.mk hp0; have HBT0 := Aside0.mk hb0; have HR0 := Aside0.mk hr0; have HST0 := Aside0.mk hs0
          have HP1 := Aside0.mk hp1; have HBT1 := Aside0.mk hb1; have HR1 := Aside0.mk hr1; have HST1 := Aside0.mk hs1
          clear hV hT2 hTu hu hup hut hq1 hq2 hq3 hcmp hp0 hb0 hr0 hs0 hp1 hb1 hr1 hs1
          go_wp2_with fail
          have BP := Aside0.mk (blk_new wr (.cells #[.int .i64 0, .int .i64 1] 41))
          have GP := Aside0.mk HB.out.size
          have HS0A := Aside0.mk ((World.cell?_alloc_lt wr (.cells #[.int .i64 0, .int .i64 1] 41) ⟨gs, 0, none⟩ (World.block_lt_of_cell? _ _ HS0.out)).trans HS0.out)
          have HS1A := Aside0.mk ((World.cell?_alloc_lt wr (.cells #[.int .i64 0, .int .i64 1] 41) ⟨gs, 1, none⟩ (World.block_lt_of_cell? _ _ HS1.out)).trans HS1.out)
          have HS2A := Aside0.mk ((World.cell?_alloc_lt wr (.cells #[.int .i64 0, .int .i64 1] 41) ⟨gs, 2, none⟩ (World.block_lt_of_cell? _ _ HS2.out)).trans HS2.out)
          have BKA := Aside0.mk (blk_alloc BK.out (.cells #[.int .i64 0, .int .i64 1] 41))
          have BTA := Aside0.mk (blk_alloc BT.out (.cells #[.int .i64 0, .int .i64 1] 41))
          have HBA := Aside0.mk (below_alloc HB.out (.cells #[.int .i64 0, .int .i64 1] 41))
          clear hA0 hA1 hA2 HS0 HS1 HS2 BK BT HB
          clear hc0_wr hf0_wr hc1_wr hf1_wr hc2_wr hf2_wr hd0_wr he0_wr hd1_wr he1_wr hd2_wr he2_wr hs
          generalize wr.alloc (.cells #[.int .i64 0, .int .i64 1] 41) = w8 at BP HS0A HS1A HS2A BKA BTA HBA ⊢
          generalize wr.heap.size = gp at BP GP ⊢
          have BK := BKA; have BT := BTA; have HB := HBA; have HS0 := HS0A; have HS1 := HS1A; have HS2 := HS2A
          clear BKA BTA HBA HS0A HS1A HS2A
          refine (sackbutlaw04_Of.calls n a b _ _ _ _ rfl).mono ?_
          rintro e_ w9 ⟨rfl, hb⟩
          have m0 := Aside0.mk (blk_below BK.out hb); have m1 := Aside0.mk (blk_below BT.out hb); have m2 := Aside0.mk (blk_below BP.out hb); have m3 := Aside0.mk (below_step HB.out hb)
          have m4 := Aside0.mk ((hb.cell (World.block_lt_of_cell? _ _ HS0.out)).trans HS0.out)
          have m5 := Aside0.mk ((hb.cell (World.block_lt_of_cell? _ _ HS1.out)).trans HS1.out)
          have m6 := Aside0.mk ((hb.cell (World.block_lt_of_cell? _ _ HS2.out)).trans HS2.out)
          clear BK BT BP HB HS0 HS1 HS2 hb
          have BK := m0; have BT := m1; have BP := m2; have HB := m3; have HS0 := m4; have HS1 := m5; have HS2 := m6
          clear m0 m1 m2 m3 m4 m5 m6
          have hc0_w9 : w9.cell? ⟨gb, 0, none⟩ = some (.int .i64 n) := (blk_cell BK.out 0).trans rfl
          have hf0_w9 := blk_frozen BK.out 0
          have hc1_w9 : w9.cell? ⟨gb, 1, none⟩ = some (.int .i64 a) := (blk_cell BK.out 1).trans rfl
          have hf1_w9 := blk_frozen BK.out 1
          have hc2_w9 : w9.cell? ⟨gb, 2, none⟩ = some (.int .i64 b) := (blk_cell BK.out 2).trans rfl
          have hf2_w9 := blk_frozen BK.out 2
          go_wp2_with fail
          refine (triads_Walk.calls n a b t ⟨#[82]⟩ u 0 _ HW1.out).mono ?_
          rintro e_ w10 ⟨rfl, hb⟩
          have m0 := Aside0.mk (blk_below BK.out hb); have m1 := Aside0.mk (blk_below BT.out hb); have m2 := Aside0.mk (blk_below BP.out hb); have m3 := Aside0.mk (below_step HB.out hb)
          have m4 := Aside0.mk ((hb.cell (World.block_lt_of_cell? _ _ HS0.out)).trans HS0.out)
          have m5 := Aside0.mk ((hb.cell (World.block_lt_of_cell? _ _ HS1.out)).trans HS1.out)
          have m6 := Aside0.mk ((hb.cell (World.block_lt_of_cell? _ _ HS2.out)).trans HS2.out)
          clear BK BT BP HB HS0 HS1 HS2 hb hc0_w9 hf0_w9 hc1_w9 hf1_w9 hc2_w9 hf2_w9
          have BK := m0; have BT := m1; have BP := m2; have HB := m3; have HS0 := m4; have HS1 := m5; have HS2 := m6
          clear m0 m1 m2 m3 m4 m5 m6
          have hc0_w10 : w10.cell? ⟨gb, 0, none⟩ = some (.int .i64 n) := (blk_cell BK.out 0).trans rfl
          have hf0_w10 := blk_frozen BK.out 0
          have hc1_w10 : w10.cell? ⟨gb, 1, none⟩ = some (.int .i64 a) := (blk_cell BK.out 1).trans rfl
          have hf1_w10 := blk_frozen BK.out 1
          have hc2_w10 : w10.cell? ⟨gb, 2, none⟩ = some (.int .i64 b) := (blk_cell BK.out 2).trans rfl
          have hf2_w10 := blk_frozen BK.out 2
          go_wp2_with fail
          refine (sackbutlaw04_Of.calls n a b _ _ _ _ rfl).mono ?_
          rintro e_ w11 ⟨rfl, hb⟩
          have m0 := Aside0.mk (blk_below BK.out hb); have m1 := Aside0.mk (blk_below BT.out hb); have m2 := Aside0.mk (blk_below BP.out hb); have m3 := Aside0.mk (below_step HB.out hb)
          have m4 := Aside0.mk ((hb.cell (World.block_lt_of_cell? _ _ HS0.out)).trans HS0.out)
          have m5 := Aside0.mk ((hb.cell (World.block_lt_of_cell? _ _ HS1.out)).trans HS1.out)
          have m6 := Aside0.mk ((hb.cell (World.block_lt_of_cell? _ _ HS2.out)).trans HS2.out)
          clear BK BT BP HB HS0 HS1 HS2 hb hc0_w10 hf0_w10 hc1_w10 hf1_w10 hc2_w10 hf2_w10
          have BK := m0; have BT := m1; have BP := m2; have HB := m3; have HS0 := m4; have HS1 := m5; have HS2 := m6
          clear m0 m1 m2 m3 m4 m5 m6
          have hc0_w11 : w11.cell? ⟨gb, 0, none⟩ = some (.int .i64 n) := (blk_cell BK.out 0).trans rfl
          have hf0_w11 := blk_frozen BK.out 0
          have hc1_w11 : w11.cell? ⟨gb, 1, none⟩ = some (.int .i64 a) := (blk_cell BK.out 1).trans rfl
          have hf1_w11 := blk_frozen BK.out 1
          have hc2_w11 : w11.cell? ⟨gb, 2, none⟩ = some (.int .i64 b) := (blk_cell BK.out 2).trans rfl
          have hf2_w11 := blk_frozen BK.out 2
          go_wp2_with fail
          refine (triads_Walk.calls n a b u ⟨#[82]⟩ t 0 _ HW2.out).mono ?_
          rintro e_ w12 ⟨rfl, hb⟩
          have m0 := Aside0.mk (blk_below BK.out hb); have m1 := Aside0.mk (blk_below BT.out hb); have m2 := Aside0.mk (blk_below BP.out hb); have m3 := Aside0.mk (below_step HB.out hb)
          have m4 := Aside0.mk ((hb.cell (World.block_lt_of_cell? _ _ HS0.out)).trans HS0.out)
          have m5 := Aside0.mk ((hb.cell (World.block_lt_of_cell? _ _ HS1.out)).trans HS1.out)
          have m6 := Aside0.mk ((hb.cell (World.block_lt_of_cell? _ _ HS2.out)).trans HS2.out)
          clear BK BT BP HB HS0 HS1 HS2 hb hc0_w11 hf0_w11 hc1_w11 hf1_w11 hc2_w11 hf2_w11
          have BK := m0; have BT := m1; have BP := m2; have HB := m3; have HS0 := m4; have HS1 := m5; have HS2 := m6
          clear m0 m1 m2 m3 m4 m5 m6
          have hc0_w12 : w12.cell? ⟨gb, 0, none⟩ = some (.int .i64 n) := (blk_cell BK.out 0).trans rfl
          have hf0_w12 := blk_frozen BK.out 0
          have hc1_w12 : w12.cell? ⟨gb, 1, none⟩ = some (.int .i64 a) := (blk_cell BK.out 1).trans rfl
          have hf1_w12 := blk_frozen BK.out 1
          have hc2_w12 : w12.cell? ⟨gb, 2, none⟩ = some (.int .i64 b) := (blk_cell BK.out 2).trans rfl
          have hf2_w12 := blk_frozen BK.out 2
          go_wp2_with fail
          refine (sackbutlaw04_Of.calls n a b _ _ _ _ rfl).mono ?_
          rintro e_ w13 ⟨rfl, hb⟩
          have m0 := Aside0.mk (blk_below BK.out hb); have m1 := Aside0.mk (blk_below BT.out hb); have m2 := Aside0.mk (blk_below BP.out hb); have m3 := Aside0.mk (below_step HB.out hb)
          have m4 := Aside0.mk ((hb.cell (World.block_lt_of_cell? _ _ HS0.out)).trans HS0.out)
          have m5 := Aside0.mk ((hb.cell (World.block_lt_of_cell? _ _ HS1.out)).trans HS1.out)
          have m6 := Aside0.mk ((hb.cell (World.block_lt_of_cell? _ _ HS2.out)).trans HS2.out)
          clear BK BT BP HB HS0 HS1 HS2 hb hc0_w12 hf0_w12 hc1_w12 hf1_w12 hc2_w12 hf2_w12
          have BK := m0; have BT := m1; have BP := m2; have HB := m3; have HS0 := m4; have HS1 := m5; have HS2 := m6
          clear m0 m1 m2 m3 m4 m5 m6
          have hc0_w13 : w13.cell? ⟨gb, 0, none⟩ = some (.int .i64 n) := (blk_cell BK.out 0).trans rfl
          have hf0_w13 := blk_frozen BK.out 0
          have hc1_w13 : w13.cell? ⟨gb, 1, none⟩ = some (.int .i64 a) := (blk_cell BK.out 1).trans rfl
          have hf1_w13 := blk_frozen BK.out 1
          have hc2_w13 : w13.cell? ⟨gb, 2, none⟩ = some (.int .i64 b) := (blk_cell BK.out 2).trans rfl
          have hf2_w13 := blk_frozen BK.out 2
          go_wp2_with fail
          refine (triads_Tones.calls k2 n a b u V 0 _ HT2.out).mono ?_
          rintro e_ w14 ⟨rfl, hb⟩
          have m0 := Aside0.mk (blk_below BK.out hb); have m1 := Aside0.mk (blk_below BT.out hb); have m2 := Aside0.mk (blk_below BP.out hb); have m3 := Aside0.mk (below_step HB.out hb)
          have m4 := Aside0.mk ((hb.cell (World.block_lt_of_cell? _ _ HS0.out)).trans HS0.out)
          have m5 := Aside0.mk ((hb.cell (World.block_lt_of_cell? _ _ HS1.out)).trans HS1.out)
          have m6 := Aside0.mk ((hb.cell (World.block_lt_of_cell? _ _ HS2.out)).trans HS2.out)
          clear BK BT BP HB HS0 HS1 HS2 hb hc0_w13 hf0_w13 hc1_w13 hf1_w13 hc2_w13 hf2_w13
          have BK := m0; have BT := m1; have BP := m2; have HB := m3; have HS0 := m4; have HS1 := m5; have HS2 := m6
          clear m0 m1 m2 m3 m4 m5 m6
          have hc0_w14 : w14.cell? ⟨gb, 0, none⟩ = some (.int .i64 n) := (blk_cell BK.out 0).trans rfl
          have hf0_w14 := blk_frozen BK.out 0
          have hc1_w14 : w14.cell? ⟨gb, 1, none⟩ = some (.int .i64 a) := (blk_cell BK.out 1).trans rfl
          have hf1_w14 := blk_frozen BK.out 1
          have hc2_w14 : w14.cell? ⟨gb, 2, none⟩ = some (.int .i64 b) := (blk_cell BK.out 2).trans rfl
          have hf2_w14 := blk_frozen BK.out 2
          have hq1 := HQ1.out; have hq2 := HQ2.out; have hcmp := HCM.out
          go_wp2_with fail
          go_region
          have hp0 : w14.cell? ⟨gp, 0, none⟩ = some (.int .i64 0) := (blk_cell BP.out 0).trans rfl
          have hp1 : w14.cell? ⟨gp, 1, none⟩ = some (.int .i64 1) := (blk_cell BP.out 1).trans rfl
          have hpd0 : w14.drew.cell? ⟨gp, 0, none⟩ = some (.int .i64 0) := hp0
          have hpd1 : w14.drew.cell? ⟨gp, 1, none⟩ = some (.int .i64 1) := hp1
          go_wp2_with fail
          clear hp0 hp1 hpd0 hpd1 hq1 hq2 hcmp hI hJ hc0_w14 hf0_w14 hc1_w14 hf1_w14 hc2_w14 hf2_w14
          obtain ⟨wo, rfl⟩ : ∃ wo : World, wo = wr := ⟨_, rfl⟩
          obtain ⟨gq, rfl⟩ : ∃ gq : Nat, gq = gk := ⟨_, rfl⟩
          go_loopg [169] 2 (fun gk2 v wr2 => ∃ i : Nat, gk2 + i = 2 ∧ v = .int .i64 (i : Int) ∧ Aside0 (wr2.heap[gb]? = some (.cells #[.int .i64 n, .int .i64 a, .int .i64 b] 23 (0, 0))) ∧ Aside0 (wr2.heap[gt]? = some (.cells #[.int .i64 x0, .int .i64 x1, .int .i64 x2] 39 (0, 0))) ∧ Aside0 (wr2.cell? ⟨gs, 0, none⟩ = some (.string ⟨#[80]⟩)) ∧ Aside0 (wr2.cell? ⟨gs, 1, none⟩ = some (.string ⟨#[76]⟩)) ∧ Aside0 (wr2.cell? ⟨gs, 2, none⟩ = some (.string ⟨#[82]⟩)) ∧ Aside0 (Below w.heap.size w wr2))
          case atStart => exact ⟨0, rfl, rfl, BK, BT, HS0, HS1, HS2, ⟨HB.out.drew⟩⟩
          case round =>
            clear BK BT HS0 HS1 HS2 HB BP
            obtain ⟨i, hgi, rfl, BK, BT, HS0, HS1, HS2, HB⟩ := hrel
            have hc0_wr : wr.cell? ⟨gb, 0, none⟩ = some (.int .i64 n) := (blk_cell BK.out 0).trans rfl
            have hf0_wr := blk_frozen BK.out 0
            have hc1_wr : wr.cell? ⟨gb, 1, none⟩ = some (.int .i64 a) := (blk_cell BK.out 1).trans rfl
            have hf1_wr := blk_frozen BK.out 1
            have hc2_wr : wr.cell? ⟨gb, 2, none⟩ = some (.int .i64 b) := (blk_cell BK.out 2).trans rfl
            have hf2_wr := blk_frozen BK.out 2
            have hd0_wr : wr.cell? ⟨gt, 0, none⟩ = some (.int .i64 x0) := (blk_cell BT.out 0).trans rfl
            have he0_wr := blk_frozen BT.out 0
            have hd1_wr : wr.cell? ⟨gt, 1, none⟩ = some (.int .i64 x1) := (blk_cell BT.out 1).trans rfl
            have he1_wr := blk_frozen BT.out 1
            have hd2_wr : wr.cell? ⟨gt, 2, none⟩ = some (.int .i64 x2) := (blk_cell BT.out 2).trans rfl
            have he2_wr := blk_frozen BT.out 2
            rcases (show i = 0 ∨ i = 1 ∨ i = 2 by omega) with rfl | rfl | rfl
            · have hI2 : ∀ w', Sem.run Tryd.prog (Instr.index 41 (.agg #[.int .i64 0, .int .i64 1]) (.int .i64 0)) w' = .ok (.int .i64 0) w' := fun w' => by kernel_rfl
              have hp := HP0.out; have hbt := HBT0.out; have hr := HR0.out; have hst := HST0.out
              go_wp2_with fail
              go_roundg (gk - 1)
              case measure => omega
              case rel => exact ⟨1, by omega, rfl, BK, BT, HS0, HS1, HS2, HB⟩
            · have hI2 : ∀ w', Sem.run Tryd.prog (Instr.index 41 (.agg #[.int .i64 0, .int .i64 1]) (.int .i64 1)) w' = .ok (.int .i64 1) w' := fun w' => by kernel_rfl
              have hp := HP1.out; have hbt := HBT1.out; have hr := HR1.out; have hst := HST1.out
              go_wp2_with fail
              go_roundg (gk - 1)
              case measure => omega
              case rel => exact ⟨2, by omega, rfl, BK, BT, HS0, HS1, HS2, HB⟩
            · go_wp2_with fail
              go_roundg (gq - 1)
              case measure => omega
              case rel => exact ⟨3, by omega, rfl, BK, BT, HS0, HS1, HS2, HB⟩
        · go_wp2_with (first | (go_at_call 20; refine (sackbutlaw04_awake.calls true _ Base.awake_f).mono ?_; rintro e_ w15 ⟨rfl, hb⟩; have n0_ := Aside0.mk (blk_below (g := gb) (o := .cells #[.int .i64 n, .int .i64 a, .int .i64 b] 23 (0, 0)) (by (with_reducible repeat (first | refine blk_drewN ?_ _ | refine blk_drew ?_ | refine blk_alloc ?_ _)); exact BK.out) hb); have n1_ := Aside0.mk (below_step (by repeat (first | (with_reducible first | exact HB.out | apply below_alloc | apply pw_below_drewN | apply below_drew1 | refine below_set ?_ GE.out) | exact HB.out)) hb); clear BK HB; have BK := n0_; have HB := n1_; clear n0_ n1_ hb; have hc0_w15 : w15.cell? ⟨gb, 0, none⟩ = some (.int .i64 n) := (blk_cell BK.out 0).trans rfl; have hf0_w15 := blk_frozen BK.out 0; have hc1_w15 : w15.cell? ⟨gb, 1, none⟩ = some (.int .i64 a) := (blk_cell BK.out 1).trans rfl; have hf1_w15 := blk_frozen BK.out 1; have hc2_w15 : w15.cell? ⟨gb, 2, none⟩ = some (.int .i64 b) := (blk_cell BK.out 2).trans rfl; have hf2_w15 := blk_frozen BK.out 2; ))
          go_ret
          exact ⟨rfl, HB.out⟩
    · have hd1 : decide (n ≤ t) = false := decide_eq_false hge
      go_wp2_with fail
      have hlt5 : gb < w5.heap.size := World.block_lt_of_cell? _ _ hc0_w5
      have hA1 : (w5.alloc (.cells #[.int .i64 0, .int .i64 0, .int .i64 0] 39)).cell? ⟨gb, 1, none⟩ = some (.int .i64 a) := (World.cell?_alloc_lt _ _ _ hlt5).trans hc1_w5
      have hA2 : (w5.alloc (.cells #[.int .i64 0, .int .i64 0, .int .i64 0] 39)).cell? ⟨gb, 2, none⟩ = some (.int .i64 b) := (World.cell?_alloc_lt _ _ _ hlt5).trans hc2_w5
      go_region
      obtain ⟨x0, hx0⟩ : ∃ x0, x0 = t % n := ⟨_, rfl⟩
      obtain ⟨x1, hx1⟩ : ∃ x1, x1 = (wrap64 ((wrap64 (t % n + a)).tmod n + n)).tmod n := ⟨_, rfl⟩
      obtain ⟨x2, hx2⟩ : ∃ x2, x2 = (wrap64 ((wrap64 (t % n + b)).tmod n + n)).tmod n := ⟨_, rfl⟩
      rw [← hx1, ← hx2]
      have BT := Aside0.mk (show ((w5.alloc (.cells #[.int .i64 x0, .int .i64 x1, .int .i64 x2] 39)).drew.drew).heap[w5.heap.size]? = some (.cells #[.int .i64 x0, .int .i64 x1, .int .i64 x2] 39 (0, 0)) from blk_new _ _)
      replace BK := Aside0.mk (show ((w5.alloc (.cells #[.int .i64 x0, .int .i64 x1, .int .i64 x2] 39)).drew.drew).heap[gb]? = some (.cells #[.int .i64 n, .int .i64 a, .int .i64 b] 23 (0, 0)) from blk_alloc BK.out _)
      replace HB := Aside0.mk (show Below w.heap.size w ((w5.alloc (.cells #[.int .i64 x0, .int .i64 x1, .int .i64 x2] 39)).drew.drew) from (below_alloc HB.out _).drew.drew)
      rw [← hx0]
      clear hA1 hA2 hc0_d hc1_d hc2_d hc0_w5 hc1_w5 hc2_w5 hf0_w5 hf1_w5 hf2_w5
      generalize (w5.alloc (.cells #[.int .i64 x0, .int .i64 x1, .int .i64 x2] 39)).drew.drew = w6 at BT BK HB ⊢
      have GT := Aside0.mk (show w.heap.size ≤ w5.heap.size from HB5.out.size)
      generalize w5.heap.size = gt at BT GT ⊢
      clear hlt5
      have HX0b := Aside0.mk hx0
      have HX0 := Aside0.mk (show x0 = ((toneAt n t 0 : Nat) : Int) from hx0.trans (tone0 (kind_pos' HK.out)))
      have HX1 := Aside0.mk (show x1 = ((toneAt n t a : Nat) : Int) by rw [hx1, tone_said HK.out HTr.out a (by omega) (by omega), toneAt_int n t a (by omega), if_neg (by omega)])
      have HX2 := Aside0.mk (show x2 = ((toneAt n t b : Nat) : Int) by rw [hx2, tone_said HK.out HTr.out b (by omega) (by omega), toneAt_int n t b (by omega), if_neg (by omega)])
      clear hx0 hx1 hx2 HB5
      have hc0_w6 : w6.cell? ⟨gb, 0, none⟩ = some (.int .i64 n) := (blk_cell BK.out 0).trans rfl
      have hf0_w6 := blk_frozen BK.out 0
      have hc1_w6 : w6.cell? ⟨gb, 1, none⟩ = some (.int .i64 a) := (blk_cell BK.out 1).trans rfl
      have hf1_w6 := blk_frozen BK.out 1
      have hc2_w6 : w6.cell? ⟨gb, 2, none⟩ = some (.int .i64 b) := (blk_cell BK.out 2).trans rfl
      have hf2_w6 := blk_frozen BK.out 2
      have hd0_w6 : w6.cell? ⟨gt, 0, none⟩ = some (.int .i64 x0) := (blk_cell BT.out 0).trans rfl
      have he0_w6 := blk_frozen BT.out 0
      have hd1_w6 : w6.cell? ⟨gt, 1, none⟩ = some (.int .i64 x1) := (blk_cell BT.out 1).trans rfl
      have he1_w6 := blk_frozen BT.out 1
      have hd2_w6 : w6.cell? ⟨gt, 2, none⟩ = some (.int .i64 x2) := (blk_cell BT.out 2).trans rfl
      have he2_w6 := blk_frozen BT.out 2
      go_wp2_with (first | ((with_reducible refine gate_dst (N := 79) rfl ?_); (try (refine gate_guard (by rfl) ?_; dsimp only)); refine Kd.R_lit Kd.string _ 9 ?hg (N := 79) ?hd (xs := ([⟨#[80]⟩, ⟨#[76]⟩, ⟨#[82]⟩] : List ByteArray)) (inner := [.string ⟨#[80]⟩, .string ⟨#[76]⟩, .string ⟨#[82]⟩]) (ok := fun _ => True) (okp := fun _ => True) ?hr ?hp (fun _ hk => hk) trivial (Below.refl _ _) (Nat.le_refl _) (by simp) ?_; (case hd => rfl); (case hg => rfl); (case hr => first | (go_simp; done) | (go_simp; rfl)); (case hp => exact (Reps.one (show Kd.M Kd.string _ _ _ (⟨#[80]⟩ : ByteArray) [.string ⟨#[80]⟩] from rfl) (Reps.one (show Kd.M Kd.string _ _ _ (⟨#[76]⟩ : ByteArray) [.string ⟨#[76]⟩] from rfl) (Reps.one (show Kd.M Kd.string _ _ _ (⟨#[82]⟩ : ByteArray) [.string ⟨#[82]⟩] from rfl) (Reps.none _ _))))); intro v7 w7 ho hb hg_ hnew_; clear hg_ hnew_; have HO := Aside0.mk ho; clear ho; have n0_ := Aside0.mk (blk_below (g := gb) (o := .cells #[.int .i64 n, .int .i64 a, .int .i64 b] 23 (0, 0)) (by (with_reducible repeat (first | refine blk_drewN ?_ _ | refine blk_drew ?_ | refine blk_alloc ?_ _)); exact BK.out) hb); have n1_ := Aside0.mk (below_step (by repeat (first | (with_reducible first | exact HB.out | apply below_alloc | apply pw_below_drewN | apply below_drew1 | refine below_set ?_ GE.out) | exact HB.out)) hb); have n2_ := Aside0.mk (blk_below (g := gt) (o := .cells #[.int .i64 x0, .int .i64 x1, .int .i64 x2] 39 (0, 0)) (by (with_reducible repeat (first | refine blk_drewN ?_ _ | refine blk_drew ?_ | refine blk_alloc ?_ _)); exact BT.out) hb); clear BK HB BT; have BK := n0_; have HB := n1_; have BT := n2_; clear n0_ n1_ n2_ hb; have hc0_w7 : w7.cell? ⟨gb, 0, none⟩ = some (.int .i64 n) := (blk_cell BK.out 0).trans rfl; have hf0_w7 := blk_frozen BK.out 0; have hc1_w7 : w7.cell? ⟨gb, 1, none⟩ = some (.int .i64 a) := (blk_cell BK.out 1).trans rfl; have hf1_w7 := blk_frozen BK.out 1; have hc2_w7 : w7.cell? ⟨gb, 2, none⟩ = some (.int .i64 b) := (blk_cell BK.out 2).trans rfl; have hf2_w7 := blk_frozen BK.out 2; have hd0_w7 : w7.cell? ⟨gt, 0, none⟩ = some (.int .i64 x0) := (blk_cell BT.out 0).trans rfl; have he0_w7 := blk_frozen BT.out 0; have hd1_w7 : w7.cell? ⟨gt, 1, none⟩ = some (.int .i64 x1) := (blk_cell BT.out 1).trans rfl; have he1_w7 := blk_frozen BT.out 1; have hd2_w7 : w7.cell? ⟨gt, 2, none⟩ = some (.int .i64 x2) := (blk_cell BT.out 2).trans rfl; have he2_w7 := blk_frozen BT.out 2; obtain ⟨gs, cs, es, _⟩ := Kd.R_form HO.out (by decide); replace es : v7 = .slice (some ⟨gs, 0, none⟩) 3 cs := es; subst es))
      have HS0 := Aside0.mk (show w7.cell? ⟨gs, 0, none⟩ = some (.string ⟨#[80]⟩) from (Kd.R_celln (d := ByteArray.empty) HO.out 0 (by decide) (by decide)).1)
      have HS1 := Aside0.mk (show w7.cell? ⟨gs, 1, none⟩ = some (.string ⟨#[76]⟩) from (Kd.R_celln (d := ByteArray.empty) HO.out 1 (by decide) (by decide)).1)
      have HS2 := Aside0.mk (show w7.cell? ⟨gs, 2, none⟩ = some (.string ⟨#[82]⟩) from (Kd.R_celln (d := ByteArray.empty) HO.out 2 (by decide) (by decide)).1)
      clear HO
      clear hc0_w1 hf0_w1 hc1_w1 hf1_w1 hc2_w1 hf2_w1 hc0_w2 hf0_w2 hc1_w2 hf1_w2 hc2_w2 hf2_w2 hc0_w3 hf0_w3 hc1_w3 hf1_w3 hc2_w3 hf2_w3 hc0_w4 hf0_w4 hc1_w4 hf1_w4 hc2_w4 hf2_w4 hc0_w6 hf0_w6 hc1_w6 hf1_w6 hc2_w6 hf2_w6 hd0_w6 he0_w6 hd1_w6 he1_w6 hd2_w6 he2_w6 hc0_w7 hf0_w7 hc1_w7 hf1_w7 hc2_w7 hf2_w7 hd0_w7 he0_w7 hd1_w7 he1_w7 hd2_w7 he2_w7
      go_loopg [81] 3 (fun gk v wr => ∃ j : Nat, gk + j = 3 ∧ v = .int .i64 (j : Int) ∧ Aside0 (wr.heap[gb]? = some (.cells #[.int .i64 n, .int .i64 a, .int .i64 b] 23 (0, 0))) ∧ Aside0 (wr.heap[gt]? = some (.cells #[.int .i64 x0, .int .i64 x1, .int .i64 x2] 39 (0, 0))) ∧ Aside0 (wr.cell? ⟨gs, 0, none⟩ = some (.string ⟨#[80]⟩)) ∧ Aside0 (wr.cell? ⟨gs, 1, none⟩ = some (.string ⟨#[76]⟩)) ∧ Aside0 (wr.cell? ⟨gs, 2, none⟩ = some (.string ⟨#[82]⟩)) ∧ Aside0 (Below w.heap.size w wr))
      case atStart => exact ⟨0, rfl, rfl, BK, BT, HS0, HS1, HS2, HB⟩
      case round =>
        clear BK BT HS0 HS1 HS2 HB
        obtain ⟨j, hgj, rfl, BK, BT, HS0, HS1, HS2, HB⟩ := hrel
        have hc0_wr : wr.cell? ⟨gb, 0, none⟩ = some (.int .i64 n) := (blk_cell BK.out 0).trans rfl
        have hf0_wr := blk_frozen BK.out 0
        have hc1_wr : wr.cell? ⟨gb, 1, none⟩ = some (.int .i64 a) := (blk_cell BK.out 1).trans rfl
        have hf1_wr := blk_frozen BK.out 1
        have hc2_wr : wr.cell? ⟨gb, 2, none⟩ = some (.int .i64 b) := (blk_cell BK.out 2).trans rfl
        have hf2_wr := blk_frozen BK.out 2
        have hd0_wr : wr.cell? ⟨gt, 0, none⟩ = some (.int .i64 x0) := (blk_cell BT.out 0).trans rfl
        have he0_wr := blk_frozen BT.out 0
        have hd1_wr : wr.cell? ⟨gt, 1, none⟩ = some (.int .i64 x1) := (blk_cell BT.out 1).trans rfl
        have he1_wr := blk_frozen BT.out 1
        have hd2_wr : wr.cell? ⟨gt, 2, none⟩ = some (.int .i64 x2) := (blk_cell BT.out 2).trans rfl
        have he2_wr := blk_frozen BT.out 2
        rcases (show j = 0 ∨ j = 1 ∨ j = 2 ∨ j = 3 by omega) with rfl | rfl | rfl | rfl
        · have hs := HS0.out
          have hI : ∀ w', Sem.run Tryd.prog (Instr.index 42 (.agg #[.int .i64 0, .int .i64 2, .int .i64 1, .int .i64 2, .int .i64 0, .int .i64 1]) (.int .i64 0)) w' = .ok (.agg #[.int .i64 0, .int .i64 2]) w' := fun w' => by kernel_rfl
          have hJ : ∀ (x y z : Int) w', Sem.run Tryd.prog (Instr.index 39 (.agg #[.int .i64 x, .int .i64 y, .int .i64 z]) (.int .i64 0)) w' = .ok (.int .i64 x) w' := fun x y z w' => by kernel_rfl
          have hA0 : (wr.alloc (.cells #[.int .i64 0, .int .i64 2] 41)).cell? ⟨gb, 0, none⟩ = some (.int .i64 n) := (blk_cell (blk_alloc BK.out _) 0).trans rfl
          have hA1 : (wr.alloc (.cells #[.int .i64 0, .int .i64 2] 41)).cell? ⟨gb, 1, none⟩ = some (.int .i64 a) := (blk_cell (blk_alloc BK.out _) 1).trans rfl
          have hA2 : (wr.alloc (.cells #[.int .i64 0, .int .i64 2] 41)).cell? ⟨gb, 2, none⟩ = some (.int .i64 b) := (blk_cell (blk_alloc BK.out _) 2).trans rfl
          obtain ⟨u, hu⟩ : ∃ u, u = stepI n a b t 80 := ⟨_, rfl⟩
          have hup : up a b 80 = b := rfl
          have HU := Aside0.mk hu
          have hut : isTri n u = true := by rw [hu]; exact step_tri HK.out 80
          have HW1 := Aside0.mk (show triads_Walk.f n a b t ⟨#[80]⟩ = some (u, 0) by rw [hu]; exact walk_one hn ha hb HK.out HTr.out 80 rfl)
          have HW2 := Aside0.mk (show triads_Walk.f n a b u ⟨#[80]⟩ = some (t, 0) by have e1 := walk_one hn ha hb HK.out hut 80 rfl; have e2 := step_twice HK.out HTr.out 80; rw [show (((80 : UInt8).toNat : Nat) : Int) = 80 from rfl] at e1 e2; rw [hu] at e1 ⊢; rw [e2] at e1; exact e1)
          have hTu := Tones_f (n := n) (a := a) (b := b) u hn ha hb
          rw [HK.out, hut] at hTu
          obtain ⟨k2, hT2⟩ := Ev.rounds hTu
          obtain ⟨V, hV⟩ : ∃ V : Int, V = ((tonesN n a b u : Nat) : Int) := ⟨_, rfl⟩
          have HT2 := Aside0.mk (show triads_Tones.f k2 n a b u = some (V, 0) by rw [hV]; exact hT2)
          obtain ⟨hq1, hq2, hq3⟩ := step_bright HK.out (show t < n by omega) ht0 80
          rw [← hu] at hq1 hq3
          have hcmp : (u % n != (wrap64 ((wrap64 (x0 + b)).tmod n + n)).tmod n) = false := by rw [HX0b.out, tone_said HK.out HTr.out (b) (by omega) (by omega), hq3, hup]; simp
          obtain ⟨p0, hp0, hb0⟩ := bit_of (t := u) HK.out b (by simp) V x0 hV (HX0.out.trans (by rw [hu]; exact tone_kept HK.out HTr.out 80 0 b (by rw [hup]; all_goals omega)))
          obtain ⟨r0, hr0, hs0⟩ := bit_of (t := t) HK.out 0 (by simp) S x0 HS.out HX0.out
          obtain ⟨p1, hp1, hb1⟩ := bit_of (t := u) HK.out 0 (by simp) V x2 hV (HX2.out.trans (by rw [hu]; exact tone_kept HK.out HTr.out 80 b 0 (by rw [hup]; all_goals omega)))
          obtain ⟨r1, hr1, hs1⟩ := bit_of (t := t) HK.out b (by simp) S x2 HS.out HX2.out
          have hu0 : 0 ≤ u := (of_decide_eq_true hut).1
          have hu1 : u < 2 * n := (of_decide_eq_true hut).2
          have HQ1 := Aside0.mk hq1; have HQ2 := Aside0.mk hq2; have HCM := Aside0.mk hcmp
          have HP0 := Aside0.mk hp0; have HBT0 := Aside0.mk hb0; have HR0 := Aside0.mk hr0; have HST0 := Aside0.mk hs0
          have HP1 := Aside0.mk hp1; have HBT1 := Aside0.mk hb1; have HR1 := Aside0.mk hr1; have HST1 := Aside0.mk hs1
          clear hV hT2 hTu hu hup hut hq1 hq2 hq3 hcmp hp0 hb0 hr0 hs0 hp1 hb1 hr1 hs1
          go_wp2_with fail
          have BP := Aside0.mk (blk_new wr (.cells #[.int .i64 0, .int .i64 2] 41))
          have GP := Aside0.mk HB.out.size
          have HS0A := Aside0.mk ((World.cell?_alloc_lt wr (.cells #[.int .i64 0, .int .i64 2] 41) ⟨gs, 0, none⟩ (World.block_lt_of_cell? _ _ HS0.out)).trans HS0.out)
          have HS1A := Aside0.mk ((World.cell?_alloc_lt wr (.cells #[.int .i64 0, .int .i64 2] 41) ⟨gs, 1, none⟩ (World.block_lt_of_cell? _ _ HS1.out)).trans HS1.out)
          have HS2A := Aside0.mk ((World.cell?_alloc_lt wr (.cells #[.int .i64 0, .int .i64 2] 41) ⟨gs, 2, none⟩ (World.block_lt_of_cell? _ _ HS2.out)).trans HS2.out)
          have BKA := Aside0.mk (blk_alloc BK.out (.cells #[.int .i64 0, .int .i64 2] 41))
          have BTA := Aside0.mk (blk_alloc BT.out (.cells #[.int .i64 0, .int .i64 2] 41))
          have HBA := Aside0.mk (below_alloc HB.out (.cells #[.int .i64 0, .int .i64 2] 41))
          clear hA0 hA1 hA2 HS0 HS1 HS2 BK BT HB
          clear hc0_wr hf0_wr hc1_wr hf1_wr hc2_wr hf2_wr hd0_wr he0_wr hd1_wr he1_wr hd2_wr he2_wr hs
          generalize wr.alloc (.cells #[.int .i64 0, .int .i64 2] 41) = w8 at BP HS0A HS1A HS2A BKA BTA HBA ⊢
          generalize wr.heap.size = gp at BP GP ⊢
          have BK := BKA; have BT := BTA; have HB := HBA; have HS0 := HS0A; have HS1 := HS1A; have HS2 := HS2A
          clear BKA BTA HBA HS0A HS1A HS2A
          refine (sackbutlaw04_Of.calls n a b _ _ _ _ rfl).mono ?_
          rintro e_ w9 ⟨rfl, hb⟩
          have m0 := Aside0.mk (blk_below BK.out hb); have m1 := Aside0.mk (blk_below BT.out hb); have m2 := Aside0.mk (blk_below BP.out hb); have m3 := Aside0.mk (below_step HB.out hb)
          have m4 := Aside0.mk ((hb.cell (World.block_lt_of_cell? _ _ HS0.out)).trans HS0.out)
          have m5 := Aside0.mk ((hb.cell (World.block_lt_of_cell? _ _ HS1.out)).trans HS1.out)
          have m6 := Aside0.mk ((hb.cell (World.block_lt_of_cell? _ _ HS2.out)).trans HS2.out)
          clear BK BT BP HB HS0 HS1 HS2 hb
          have BK := m0; have BT := m1; have BP := m2; have HB := m3; have HS0 := m4; have HS1 := m5; have HS2 := m6
          clear m0 m1 m2 m3 m4 m5 m6
          have hc0_w9 : w9.cell? ⟨gb, 0, none⟩ = some (.int .i64 n) := (blk_cell BK.out 0).trans rfl
          have hf0_w9 := blk_frozen BK.out 0
          have hc1_w9 : w9.cell? ⟨gb, 1, none⟩ = some (.int .i64 a) := (blk_cell BK.out 1).trans rfl
          have hf1_w9 := blk_frozen BK.out 1
          have hc2_w9 : w9.cell? ⟨gb, 2, none⟩ = some (.int .i64 b) := (blk_cell BK.out 2).trans rfl
          have hf2_w9 := blk_frozen BK.out 2
          go_wp2_with fail
          refine (triads_Walk.calls n a b t ⟨#[80]⟩ u 0 _ HW1.out).mono ?_
          rintro e_ w10 ⟨rfl, hb⟩
          have m0 := Aside0.mk (blk_below BK.out hb); have m1 := Aside0.mk (blk_below BT.out hb); have m2 := Aside0.mk (blk_below BP.out hb); have m3 := Aside0.mk (below_step HB.out hb)
          have m4 := Aside0.mk ((hb.cell (World.block_lt_of_cell? _ _ HS0.out)).trans HS0.out)
          have m5 := Aside0.mk ((hb.cell (World.block_lt_of_cell? _ _ HS1.out)).trans HS1.out)
          have m6 := Aside0.mk ((hb.cell (World.block_lt_of_cell? _ _ HS2.out)).trans HS2.out)
          clear BK BT BP HB HS0 HS1 HS2 hb hc0_w9 hf0_w9 hc1_w9 hf1_w9 hc2_w9 hf2_w9
          have BK := m0; have BT := m1; have BP := m2; have HB := m3; have HS0 := m4; have HS1 := m5; have HS2 := m6
          clear m0 m1 m2 m3 m4 m5 m6
          have hc0_w10 : w10.cell? ⟨gb, 0, none⟩ = some (.int .i64 n) := (blk_cell BK.out 0).trans rfl
          have hf0_w10 := blk_frozen BK.out 0
          have hc1_w10 : w10.cell? ⟨gb, 1, none⟩ = some (.int .i64 a) := (blk_cell BK.out 1).trans rfl
          have hf1_w10 := blk_frozen BK.out 1
          have hc2_w10 : w10.cell? ⟨gb, 2, none⟩ = some (.int .i64 b) := (blk_cell BK.out 2).trans rfl
          have hf2_w10 := blk_frozen BK.out 2
          go_wp2_with fail
          refine (sackbutlaw04_Of.calls n a b _ _ _ _ rfl).mono ?_
          rintro e_ w11 ⟨rfl, hb⟩
          have m0 := Aside0.mk (blk_below BK.out hb); have m1 := Aside0.mk (blk_below BT.out hb); have m2 := Aside0.mk (blk_below BP.out hb); have m3 := Aside0.mk (below_step HB.out hb)
          have m4 := Aside0.mk ((hb.cell (World.block_lt_of_cell? _ _ HS0.out)).trans HS0.out)
          have m5 := Aside0.mk ((hb.cell (World.block_lt_of_cell? _ _ HS1.out)).trans HS1.out)
          have m6 := Aside0.mk ((hb.cell (World.block_lt_of_cell? _ _ HS2.out)).trans HS2.out)
          clear BK BT BP HB HS0 HS1 HS2 hb hc0_w10 hf0_w10 hc1_w10 hf1_w10 hc2_w10 hf2_w10
          have BK := m0; have BT := m1; have BP := m2; have HB := m3; have HS0 := m4; have HS1 := m5; have HS2 := m6
          clear m0 m1 m2 m3 m4 m5 m6
          have hc0_w11 : w11.cell? ⟨gb, 0, none⟩ = some (.int .i64 n) := (blk_cell BK.out 0).trans rfl
          have hf0_w11 := blk_frozen BK.out 0
          have hc1_w11 : w11.cell? ⟨gb, 1, none⟩ = some (.int .i64 a) := (blk_cell BK.out 1).trans rfl
          have hf1_w11 := blk_frozen BK.out 1
          have hc2_w11 : w11.cell? ⟨gb, 2, none⟩ = some (.int .i64 b) := (blk_cell BK.out 2).trans rfl
          have hf2_w11 := blk_frozen BK.out 2
          go_wp2_with fail
          refine (triads_Walk.calls n a b u ⟨#[80]⟩ t 0 _ HW2.out).mono ?_
          rintro e_ w12 ⟨rfl, hb⟩
          have m0 := Aside0.mk (blk_below BK.out hb); have m1 := Aside0.mk (blk_below BT.out hb); have m2 := Aside0.mk (blk_below BP.out hb); have m3 := Aside0.mk (below_step HB.out hb)
          have m4 := Aside0.mk ((hb.cell (World.block_lt_of_cell? _ _ HS0.out)).trans HS0.out)
          have m5 := Aside0.mk ((hb.cell (World.block_lt_of_cell? _ _ HS1.out)).trans HS1.out)
          have m6 := Aside0.mk ((hb.cell (World.block_lt_of_cell? _ _ HS2.out)).trans HS2.out)
          clear BK BT BP HB HS0 HS1 HS2 hb hc0_w11 hf0_w11 hc1_w11 hf1_w11 hc2_w11 hf2_w11
          have BK := m0; have BT := m1; have BP := m2; have HB := m3; have HS0 := m4; have HS1 := m5; have HS2 := m6
          clear m0 m1 m2 m3 m4 m5 m6
          have hc0_w12 : w12.cell? ⟨gb, 0, none⟩ = some (.int .i64 n) := (blk_cell BK.out 0).trans rfl
          have hf0_w12 := blk_frozen BK.out 0
          have hc1_w12 : w12.cell? ⟨gb, 1, none⟩ = some (.int .i64 a) := (blk_cell BK.out 1).trans rfl
          have hf1_w12 := blk_frozen BK.out 1
          have hc2_w12 : w12.cell? ⟨gb, 2, none⟩ = some (.int .i64 b) := (blk_cell BK.out 2).trans rfl
          have hf2_w12 := blk_frozen BK.out 2
          go_wp2_with fail
          refine (sackbutlaw04_Of.calls n a b _ _ _ _ rfl).mono ?_
          rintro e_ w13 ⟨rfl, hb⟩
          have m0 := Aside0.mk (blk_below BK.out hb); have m1 := Aside0.mk (blk_below BT.out hb); have m2 := Aside0.mk (blk_below BP.out hb); have m3 := Aside0.mk (below_step HB.out hb)
          have m4 := Aside0.mk ((hb.cell (World.block_lt_of_cell? _ _ HS0.out)).trans HS0.out)
          have m5 := Aside0.mk ((hb.cell (World.block_lt_of_cell? _ _ HS1.out)).trans HS1.out)
          have m6 := Aside0.mk ((hb.cell (World.block_lt_of_cell? _ _ HS2.out)).trans HS2.out)
          clear BK BT BP HB HS0 HS1 HS2 hb hc0_w12 hf0_w12 hc1_w12 hf1_w12 hc2_w12 hf2_w12
          have BK := m0; have BT := m1; have BP := m2; have HB := m3; have HS0 := m4; have HS1 := m5; have HS2 := m6
          clear m0 m1 m2 m3 m4 m5 m6
          have hc0_w13 : w13.cell? ⟨gb, 0, none⟩ = some (.int .i64 n) := (blk_cell BK.out 0).trans rfl
          have hf0_w13 := blk_frozen BK.out 0
          have hc1_w13 : w13.cell? ⟨gb, 1, none⟩ = some (.int .i64 a) := (blk_cell BK.out 1).trans rfl
          have hf1_w13 := blk_frozen BK.out 1
          have hc2_w13 : w13.cell? ⟨gb, 2, none⟩ = some (.int .i64 b) := (blk_cell BK.out 2).trans rfl
          have hf2_w13 := blk_frozen BK.out 2
          go_wp2_with fail
          refine (triads_Tones.calls k2 n a b u V 0 _ HT2.out).mono ?_
          rintro e_ w14 ⟨rfl, hb⟩
          have m0 := Aside0.mk (blk_below BK.out hb); have m1 := Aside0.mk (blk_below BT.out hb); have m2 := Aside0.mk (blk_below BP.out hb); have m3 := Aside0.mk (below_step HB.out hb)
          have m4 := Aside0.mk ((hb.cell (World.block_lt_of_cell? _ _ HS0.out)).trans HS0.out)
          have m5 := Aside0.mk ((hb.cell (World.block_lt_of_cell? _ _ HS1.out)).trans HS1.out)
          have m6 := Aside0.mk ((hb.cell (World.block_lt_of_cell? _ _ HS2.out)).trans HS2.out)
          clear BK BT BP HB HS0 HS1 HS2 hb hc0_w13 hf0_w13 hc1_w13 hf1_w13 hc2_w13 hf2_w13
          have BK := m0; have BT := m1; have BP := m2; have HB := m3; have HS0 := m4; have HS1 := m5; have HS2 := m6
          clear m0 m1 m2 m3 m4 m5 m6
          have hc0_w14 : w14.cell? ⟨gb, 0, none⟩ = some (.int .i64 n) := (blk_cell BK.out 0).trans rfl
          have hf0_w14 := blk_frozen BK.out 0
          have hc1_w14 : w14.cell? ⟨gb, 1, none⟩ = some (.int .i64 a) := (blk_cell BK.out 1).trans rfl
          have hf1_w14 := blk_frozen BK.out 1
          have hc2_w14 : w14.cell? ⟨gb, 2, none⟩ = some (.int .i64 b) := (blk_cell BK.out 2).trans rfl
          have hf2_w14 := blk_frozen BK.out 2
          have hq1 := HQ1.out; have hq2 := HQ2.out; have hcmp := HCM.out
          go_wp2_with fail
          go_region
          have hp0 : w14.cell? ⟨gp, 0, none⟩ = some (.int .i64 0) := (blk_cell BP.out 0).trans rfl
          have hp1 : w14.cell? ⟨gp, 1, none⟩ = some (.int .i64 2) := (blk_cell BP.out 1).trans rfl
          have hpd0 : w14.drew.cell? ⟨gp, 0, none⟩ = some (.int .i64 0) := hp0
          have hpd1 : w14.drew.cell? ⟨gp, 1, none⟩ = some (.int .i64 2) := hp1
          go_wp2_with fail
          clear hp0 hp1 hpd0 hpd1 hq1 hq2 hcmp hI hJ hc0_w14 hf0_w14 hc1_w14 hf1_w14 hc2_w14 hf2_w14
          obtain ⟨wo, rfl⟩ : ∃ wo : World, wo = wr := ⟨_, rfl⟩
          obtain ⟨gq, rfl⟩ : ∃ gq : Nat, gq = gk := ⟨_, rfl⟩
          go_loopg [169] 2 (fun gk2 v wr2 => ∃ i : Nat, gk2 + i = 2 ∧ v = .int .i64 (i : Int) ∧ Aside0 (wr2.heap[gb]? = some (.cells #[.int .i64 n, .int .i64 a, .int .i64 b] 23 (0, 0))) ∧ Aside0 (wr2.heap[gt]? = some (.cells #[.int .i64 x0, .int .i64 x1, .int .i64 x2] 39 (0, 0))) ∧ Aside0 (wr2.cell? ⟨gs, 0, none⟩ = some (.string ⟨#[80]⟩)) ∧ Aside0 (wr2.cell? ⟨gs, 1, none⟩ = some (.string ⟨#[76]⟩)) ∧ Aside0 (wr2.cell? ⟨gs, 2, none⟩ = some (.string ⟨#[82]⟩)) ∧ Aside0 (Below w.heap.size w wr2))
          case atStart => exact ⟨0, rfl, rfl, BK, BT, HS0, HS1, HS2, ⟨HB.out.drew⟩⟩
          case round =>
            clear BK BT HS0 HS1 HS2 HB BP
            obtain ⟨i, hgi, rfl, BK, BT, HS0, HS1, HS2, HB⟩ := hrel
            have hc0_wr : wr.cell? ⟨gb, 0, none⟩ = some (.int .i64 n) := (blk_cell BK.out 0).trans rfl
            have hf0_wr := blk_frozen BK.out 0
            have hc1_wr : wr.cell? ⟨gb, 1, none⟩ = some (.int .i64 a) := (blk_cell BK.out 1).trans rfl
            have hf1_wr := blk_frozen BK.out 1
            have hc2_wr : wr.cell? ⟨gb, 2, none⟩ = some (.int .i64 b) := (blk_cell BK.out 2).trans rfl
            have hf2_wr := blk_frozen BK.out 2
            have hd0_wr : wr.cell? ⟨gt, 0, none⟩ = some (.int .i64 x0) := (blk_cell BT.out 0).trans rfl
            have he0_wr := blk_frozen BT.out 0
            have hd1_wr : wr.cell? ⟨gt, 1, none⟩ = some (.int .i64 x1) := (blk_cell BT.out 1).trans rfl
            have he1_wr := blk_frozen BT.out 1
            have hd2_wr : wr.cell? ⟨gt, 2, none⟩ = some (.int .i64 x2) := (blk_cell BT.out 2).trans rfl
            have he2_wr := blk_frozen BT.out 2
            rcases (show i = 0 ∨ i = 1 ∨ i = 2 by omega) with rfl | rfl | rfl
            · have hI2 : ∀ w', Sem.run Tryd.prog (Instr.index 41 (.agg #[.int .i64 0, .int .i64 2]) (.int .i64 0)) w' = .ok (.int .i64 0) w' := fun w' => by kernel_rfl
              have hp := HP0.out; have hbt := HBT0.out; have hr := HR0.out; have hst := HST0.out
              go_wp2_with fail
              go_roundg (gk - 1)
              case measure => omega
              case rel => exact ⟨1, by omega, rfl, BK, BT, HS0, HS1, HS2, HB⟩
            · have hI2 : ∀ w', Sem.run Tryd.prog (Instr.index 41 (.agg #[.int .i64 0, .int .i64 2]) (.int .i64 1)) w' = .ok (.int .i64 2) w' := fun w' => by kernel_rfl
              have hp := HP1.out; have hbt := HBT1.out; have hr := HR1.out; have hst := HST1.out
              go_wp2_with fail
              go_roundg (gk - 1)
              case measure => omega
              case rel => exact ⟨2, by omega, rfl, BK, BT, HS0, HS1, HS2, HB⟩
            · go_wp2_with fail
              go_roundg (gq - 1)
              case measure => omega
              case rel => exact ⟨1, by omega, rfl, BK, BT, HS0, HS1, HS2, HB⟩
        · have hs := HS1.out
          have hI : ∀ w', Sem.run Tryd.prog (Instr.index 42 (.agg #[.int .i64 0, .int .i64 2, .int .i64 1, .int .i64 2, .int .i64 0, .int .i64 1]) (.int .i64 1)) w' = .ok (.agg #[.int .i64 1, .int .i64 2]) w' := fun w' => by kernel_rfl
          have hJ : ∀ (x y z : Int) w', Sem.run Tryd.prog (Instr.index 39 (.agg #[.int .i64 x, .int .i64 y, .int .i64 z]) (.int .i64 1)) w' = .ok (.int .i64 y) w' := fun x y z w' => by kernel_rfl
          have hA0 : (wr.alloc (.cells #[.int .i64 1, .int .i64 2] 41)).cell? ⟨gb, 0, none⟩ = some (.int .i64 n) := (blk_cell (blk_alloc BK.out _) 0).trans rfl
          have hA1 : (wr.alloc (.cells #[.int .i64 1, .int .i64 2] 41)).cell? ⟨gb, 1, none⟩ = some (.int .i64 a) := (blk_cell (blk_alloc BK.out _) 1).trans rfl
          have hA2 : (wr.alloc (.cells #[.int .i64 1, .int .i64 2] 41)).cell? ⟨gb, 2, none⟩ = some (.int .i64 b) := (blk_cell (blk_alloc BK.out _) 2).trans rfl
          obtain ⟨u, hu⟩ : ∃ u, u = stepI n a b t 76 := ⟨_, rfl⟩
          have hup : up a b 76 = a + b := rfl
          have HU := Aside0.mk hu
          have hut : isTri n u = true := by rw [hu]; exact step_tri HK.out 76
          have HW1 := Aside0.mk (show triads_Walk.f n a b t ⟨#[76]⟩ = some (u, 0) by rw [hu]; exact walk_one hn ha hb HK.out HTr.out 76 rfl)
          have HW2 := Aside0.mk (show triads_Walk.f n a b u ⟨#[76]⟩ = some (t, 0) by have e1 := walk_one hn ha hb HK.out hut 76 rfl; have e2 := step_twice HK.out HTr.out 76; rw [show (((76 : UInt8).toNat : Nat) : Int) = 76 from rfl] at e1 e2; rw [hu] at e1 ⊢; rw [e2] at e1; exact e1)
          have hTu := Tones_f (n := n) (a := a) (b := b) u hn ha hb
          rw [HK.out, hut] at hTu
          obtain ⟨k2, hT2⟩ := Ev.rounds hTu
          obtain ⟨V, hV⟩ : ∃ V : Int, V = ((tonesN n a b u : Nat) : Int) := ⟨_, rfl⟩
          have HT2 := Aside0.mk (show triads_Tones.f k2 n a b u = some (V, 0) by rw [hV]; exact hT2)
          obtain ⟨hq1, hq2, hq3⟩ := step_bright HK.out (show t < n by omega) ht0 76
          rw [← hu] at hq1 hq3
          have hcmp : (u % n != (wrap64 ((wrap64 (x0 + (a + b))).tmod n + n)).tmod n) = false := by rw [HX0b.out, tone_said HK.out HTr.out ((a + b)) (by omega) (by omega), hq3, hup]; simp
          obtain ⟨p0, hp0, hb0⟩ := bit_of (t := u) HK.out b (by simp) V x1 hV (HX1.out.trans (by rw [hu]; exact tone_kept HK.out HTr.out 76 a b (by rw [hup]; all_goals omega)))
          obtain ⟨r0, hr0, hs0⟩ := bit_of (t := t) HK.out a (by simp) S x1 HS.out HX1.out
          obtain ⟨p1, hp1, hb1⟩ := bit_of (t := u) HK.out a (by simp) V x2 hV (HX2.out.trans (by rw [hu]; exact tone_kept HK.out HTr.out 76 b a (by rw [hup]; all_goals omega)))
          obtain ⟨r1, hr1, hs1⟩ := bit_of (t := t) HK.out b (by simp) S x2 HS.out HX2.out
          have hu0 : 0 ≤ u := (of_decide_eq_true hut).1
          have hu1 : u < 2 * n := (of_decide_eq_true hut).2
          have HQ1 := Aside0.mk hq1; have HQ2 := Aside0.mk hq2; have HCM := Aside0.mk hcmp
          have HP0 := Aside0.mk hp0; have HBT0 := Aside0.mk hb0; have HR0 := Aside0.mk hr0; have HST0 := Aside0.mk hs0
          have HP1 := Aside0.mk hp1; have HBT1 := Aside0.mk hb1; have HR1 := Aside0.mk hr1; have HST1 := Aside0.mk hs1
          clear hV hT2 hTu hu hup hut hq1 hq2 hq3 hcmp hp0 hb0 hr0 hs0 hp1 hb1 hr1 hs1
          go_wp2_with fail
          have BP := Aside0.mk (blk_new wr (.cells #[.int .i64 1, .int .i64 2] 41))
          have GP := Aside0.mk HB.out.size
          have HS0A := Aside0.mk ((World.cell?_alloc_lt wr (.cells #[.int .i64 1, .int .i64 2] 41) ⟨gs, 0, none⟩ (World.block_lt_of_cell? _ _ HS0.out)).trans HS0.out)
          have HS1A := Aside0.mk ((World.cell?_alloc_lt wr (.cells #[.int .i64 1, .int .i64 2] 41) ⟨gs, 1, none⟩ (World.block_lt_of_cell? _ _ HS1.out)).trans HS1.out)
          have HS2A := Aside0.mk ((World.cell?_alloc_lt wr (.cells #[.int .i64 1, .int .i64 2] 41) ⟨gs, 2, none⟩ (World.block_lt_of_cell? _ _ HS2.out)).trans HS2.out)
          have BKA := Aside0.mk (blk_alloc BK.out (.cells #[.int .i64 1, .int .i64 2] 41))
          have BTA := Aside0.mk (blk_alloc BT.out (.cells #[.int .i64 1, .int .i64 2] 41))
          have HBA := Aside0.mk (below_alloc HB.out (.cells #[.int .i64 1, .int .i64 2] 41))
          clear hA0 hA1 hA2 HS0 HS1 HS2 BK BT HB
          clear hc0_wr hf0_wr hc1_wr hf1_wr hc2_wr hf2_wr hd0_wr he0_wr hd1_wr he1_wr hd2_wr he2_wr hs
          generalize wr.alloc (.cells #[.int .i64 1, .int .i64 2] 41) = w8 at BP HS0A HS1A HS2A BKA BTA HBA ⊢
          generalize wr.heap.size = gp at BP GP ⊢
          have BK := BKA; have BT := BTA; have HB := HBA; have HS0 := HS0A; have HS1 := HS1A; have HS2 := HS2A
          clear BKA BTA HBA HS0A HS1A HS2A
          refine (sackbutlaw04_Of.calls n a b _ _ _ _ rfl).mono ?_
          rintro e_ w9 ⟨rfl, hb⟩
          have m0 := Aside0.mk (blk_below BK.out hb); have m1 := Aside0.mk (blk_below BT.out hb); have m2 := Aside0.mk (blk_below BP.out hb); have m3 := Aside0.mk (below_step HB.out hb)
          have m4 := Aside0.mk ((hb.cell (World.block_lt_of_cell? _ _ HS0.out)).trans HS0.out)
          have m5 := Aside0.mk ((hb.cell (World.block_lt_of_cell? _ _ HS1.out)).trans HS1.out)
          have m6 := Aside0.mk ((hb.cell (World.block_lt_of_cell? _ _ HS2.out)).trans HS2.out)
          clear BK BT BP HB HS0 HS1 HS2 hb
          have BK := m0; have BT := m1; have BP := m2; have HB := m3; have HS0 := m4; have HS1 := m5; have HS2 := m6
          clear m0 m1 m2 m3 m4 m5 m6
          have hc0_w9 : w9.cell? ⟨gb, 0, none⟩ = some (.int .i64 n) := (blk_cell BK.out 0).trans rfl
          have hf0_w9 := blk_frozen BK.out 0
          have hc1_w9 : w9.cell? ⟨gb, 1, none⟩ = some (.int .i64 a) := (blk_cell BK.out 1).trans rfl
          have hf1_w9 := blk_frozen BK.out 1
          have hc2_w9 : w9.cell? ⟨gb, 2, none⟩ = some (.int .i64 b) := (blk_cell BK.out 2).trans rfl
          have hf2_w9 := blk_frozen BK.out 2
          go_wp2_with fail
          refine (triads_Walk.calls n a b t ⟨#[76]⟩ u 0 _ HW1.out).mono ?_
          rintro e_ w10 ⟨rfl, hb⟩
          have m0 := Aside0.mk (blk_below BK.out hb); have m1 := Aside0.mk (blk_below BT.out hb); have m2 := Aside0.mk (blk_below BP.out hb); have m3 := Aside0.mk (below_step HB.out hb)
          have m4 := Aside0.mk ((hb.cell (World.block_lt_of_cell? _ _ HS0.out)).trans HS0.out)
          have m5 := Aside0.mk ((hb.cell (World.block_lt_of_cell? _ _ HS1.out)).trans HS1.out)
          have m6 := Aside0.mk ((hb.cell (World.block_lt_of_cell? _ _ HS2.out)).trans HS2.out)
          clear BK BT BP HB HS0 HS1 HS2 hb hc0_w9 hf0_w9 hc1_w9 hf1_w9 hc2_w9 hf2_w9
          have BK := m0; have BT := m1; have BP := m2; have HB := m3; have HS0 := m4; have HS1 := m5; have HS2 := m6
          clear m0 m1 m2 m3 m4 m5 m6
          have hc0_w10 : w10.cell? ⟨gb, 0, none⟩ = some (.int .i64 n) := (blk_cell BK.out 0).trans rfl
          have hf0_w10 := blk_frozen BK.out 0
          have hc1_w10 : w10.cell? ⟨gb, 1, none⟩ = some (.int .i64 a) := (blk_cell BK.out 1).trans rfl
          have hf1_w10 := blk_frozen BK.out 1
          have hc2_w10 : w10.cell? ⟨gb, 2, none⟩ = some (.int .i64 b) := (blk_cell BK.out 2).trans rfl
          have hf2_w10 := blk_frozen BK.out 2
          go_wp2_with fail
          refine (sackbutlaw04_Of.calls n a b _ _ _ _ rfl).mono ?_
          rintro e_ w11 ⟨rfl, hb⟩
          have m0 := Aside0.mk (blk_below BK.out hb); have m1 := Aside0.mk (blk_below BT.out hb); have m2 := Aside0.mk (blk_below BP.out hb); have m3 := Aside0.mk (below_step HB.out hb)
          have m4 := Aside0.mk ((hb.cell (World.block_lt_of_cell? _ _ HS0.out)).trans HS0.out)
          have m5 := Aside0.mk ((hb.cell (World.block_lt_of_cell? _ _ HS1.out)).trans HS1.out)
          have m6 := Aside0.mk ((hb.cell (World.block_lt_of_cell? _ _ HS2.out)).trans HS2.out)
          clear BK BT BP HB HS0 HS1 HS2 hb hc0_w10 hf0_w10 hc1_w10 hf1_w10 hc2_w10 hf2_w10
          have BK := m0; have BT := m1; have BP := m2; have HB := m3; have HS0 := m4; have HS1 := m5; have HS2 := m6
          clear m0 m1 m2 m3 m4 m5 m6
          have hc0_w11 : w11.cell? ⟨gb, 0, none⟩ = some (.int .i64 n) := (blk_cell BK.out 0).trans rfl
          have hf0_w11 := blk_frozen BK.out 0
          have hc1_w11 : w11.cell? ⟨gb, 1, none⟩ = some (.int .i64 a) := (blk_cell BK.out 1).trans rfl
          have hf1_w11 := blk_frozen BK.out 1
          have hc2_w11 : w11.cell? ⟨gb, 2, none⟩ = some (.int .i64 b) := (blk_cell BK.out 2).trans rfl
          have hf2_w11 := blk_frozen BK.out 2
          go_wp2_with fail
          refine (triads_Walk.calls n a b u ⟨#[76]⟩ t 0 _ HW2.out).mono ?_
          rintro e_ w12 ⟨rfl, hb⟩
          have m0 := Aside0.mk (blk_below BK.out hb); have m1 := Aside0.mk (blk_below BT.out hb); have m2 := Aside0.mk (blk_below BP.out hb); have m3 := Aside0.mk (below_step HB.out hb)
          have m4 := Aside0.mk ((hb.cell (World.block_lt_of_cell? _ _ HS0.out)).trans HS0.out)
          have m5 := Aside0.mk ((hb.cell (World.block_lt_of_cell? _ _ HS1.out)).trans HS1.out)
          have m6 := Aside0.mk ((hb.cell (World.block_lt_of_cell? _ _ HS2.out)).trans HS2.out)
          clear BK BT BP HB HS0 HS1 HS2 hb hc0_w11 hf0_w11 hc1_w11 hf1_w11 hc2_w11 hf2_w11
          have BK := m0; have BT := m1; have BP := m2; have HB := m3; have HS0 := m4; have HS1 := m5; have HS2 := m6
          clear m0 m1 m2 m3 m4 m5 m6
          have hc0_w12 : w12.cell? ⟨gb, 0, none⟩ = some (.int .i64 n) := (blk_cell BK.out 0).trans rfl
          have hf0_w12 := blk_frozen BK.out 0
          have hc1_w12 : w12.cell? ⟨gb, 1, none⟩ = some (.int .i64 a) := (blk_cell BK.out 1).trans rfl
          have hf1_w12 := blk_frozen BK.out 1
          have hc2_w12 : w12.cell? ⟨gb, 2, none⟩ = some (.int .i64 b) := (blk_cell BK.out 2).trans rfl
          have hf2_w12 := blk_frozen BK.out 2
          go_wp2_with fail
          refine (sackbutlaw04_Of.calls n a b _ _ _ _ rfl).mono ?_
          rintro e_ w13 ⟨rfl, hb⟩
          have m0 := Aside0.mk (blk_below BK.out hb); have m1 := Aside0.mk (blk_below BT.out hb); have m2 := Aside0.mk (blk_below BP.out hb); have m3 := Aside0.mk (below_step HB.out hb)
          have m4 := Aside0.mk ((hb.cell (World.block_lt_of_cell? _ _ HS0.out)).trans HS0.out)
          have m5 := Aside0.mk ((hb.cell (World.block_lt_of_cell? _ _ HS1.out)).trans HS1.out)
          have m6 := Aside0.mk ((hb.cell (World.block_lt_of_cell? _ _ HS2.out)).trans HS2.out)
          clear BK BT BP HB HS0 HS1 HS2 hb hc0_w12 hf0_w12 hc1_w12 hf1_w12 hc2_w12 hf2_w12
          have BK := m0; have BT := m1; have BP := m2; have HB := m3; have HS0 := m4; have HS1 := m5; have HS2 := m6
          clear m0 m1 m2 m3 m4 m5 m6
          have hc0_w13 : w13.cell? ⟨gb, 0, none⟩ = some (.int .i64 n) := (blk_cell BK.out 0).trans rfl
          have hf0_w13 := blk_frozen BK.out 0
          have hc1_w13 : w13.cell? ⟨gb, 1, none⟩ = some (.int .i64 a) := (blk_cell BK.out 1).trans rfl
          have hf1_w13 := blk_frozen BK.out 1
          have hc2_w13 : w13.cell? ⟨gb, 2, none⟩ = some (.int .i64 b) := (blk_cell BK.out 2).trans rfl
          have hf2_w13 := blk_frozen BK.out 2
          go_wp2_with fail
          refine (triads_Tones.calls k2 n a b u V 0 _ HT2.out).mono ?_
          rintro e_ w14 ⟨rfl, hb⟩
          have m0 := Aside0.mk (blk_below BK.out hb); have m1 := Aside0.mk (blk_below BT.out hb); have m2 := Aside0.mk (blk_below BP.out hb); have m3 := Aside0.mk (below_step HB.out hb)
          have m4 := Aside0.mk ((hb.cell (World.block_lt_of_cell? _ _ HS0.out)).trans HS0.out)
          have m5 := Aside0.mk ((hb.cell (World.block_lt_of_cell? _ _ HS1.out)).trans HS1.out)
          have m6 := Aside0.mk ((hb.cell (World.block_lt_of_cell? _ _ HS2.out)).trans HS2.out)
          clear BK BT BP HB HS0 HS1 HS2 hb hc0_w13 hf0_w13 hc1_w13 hf1_w13 hc2_w13 hf2_w13
          have BK := m0; have BT := m1; have BP := m2; have HB := m3; have HS0 := m4; have HS1 := m5; have HS2 := m6
          clear m0 m1 m2 m3 m4 m5 m6
          have hc0_w14 : w14.cell? ⟨gb, 0, none⟩ = some (.int .i64 n) := (blk_cell BK.out 0).trans rfl
          have hf0_w14 := blk_frozen BK.out 0
          have hc1_w14 : w14.cell? ⟨gb, 1, none⟩ = some (.int .i64 a) := (blk_cell BK.out 1).trans rfl
          have hf1_w14 := blk_frozen BK.out 1
          have hc2_w14 : w14.cell? ⟨gb, 2, none⟩ = some (.int .i64 b) := (blk_cell BK.out 2).trans rfl
          have hf2_w14 := blk_frozen BK.out 2
          have hq1 := HQ1.out; have hq2 := HQ2.out; have hcmp := HCM.out
          go_wp2_with fail
          go_region
          have hp0 : w14.cell? ⟨gp, 0, none⟩ = some (.int .i64 1) := (blk_cell BP.out 0).trans rfl
          have hp1 : w14.cell? ⟨gp, 1, none⟩ = some (.int .i64 2) := (blk_cell BP.out 1).trans rfl
          have hpd0 : w14.drew.cell? ⟨gp, 0, none⟩ = some (.int .i64 1) := hp0
          have hpd1 : w14.drew.cell? ⟨gp, 1, none⟩ = some (.int .i64 2) := hp1
          go_wp2_with fail
          clear hp0 hp1 hpd0 hpd1 hq1 hq2 hcmp hI hJ hc0_w14 hf0_w14 hc1_w14 hf1_w14 hc2_w14 hf2_w14
          obtain ⟨wo, rfl⟩ : ∃ wo : World, wo = wr := ⟨_, rfl⟩
          obtain ⟨gq, rfl⟩ : ∃ gq : Nat, gq = gk := ⟨_, rfl⟩
          go_loopg [169] 2 (fun gk2 v wr2 => ∃ i : Nat, gk2 + i = 2 ∧ v = .int .i64 (i : Int) ∧ Aside0 (wr2.heap[gb]? = some (.cells #[.int .i64 n, .int .i64 a, .int .i64 b] 23 (0, 0))) ∧ Aside0 (wr2.heap[gt]? = some (.cells #[.int .i64 x0, .int .i64 x1, .int .i64 x2] 39 (0, 0))) ∧ Aside0 (wr2.cell? ⟨gs, 0, none⟩ = some (.string ⟨#[80]⟩)) ∧ Aside0 (wr2.cell? ⟨gs, 1, none⟩ = some (.string ⟨#[76]⟩)) ∧ Aside0 (wr2.cell? ⟨gs, 2, none⟩ = some (.string ⟨#[82]⟩)) ∧ Aside0 (Below w.heap.size w wr2))
          case atStart => exact ⟨0, rfl, rfl, BK, BT, HS0, HS1, HS2, ⟨HB.out.drew⟩⟩
          case round =>
            clear BK BT HS0 HS1 HS2 HB BP
            obtain ⟨i, hgi, rfl, BK, BT, HS0, HS1, HS2, HB⟩ := hrel
            have hc0_wr : wr.cell? ⟨gb, 0, none⟩ = some (.int .i64 n) := (blk_cell BK.out 0).trans rfl
            have hf0_wr := blk_frozen BK.out 0
            have hc1_wr : wr.cell? ⟨gb, 1, none⟩ = some (.int .i64 a) := (blk_cell BK.out 1).trans rfl
            have hf1_wr := blk_frozen BK.out 1
            have hc2_wr : wr.cell? ⟨gb, 2, none⟩ = some (.int .i64 b) := (blk_cell BK.out 2).trans rfl
            have hf2_wr := blk_frozen BK.out 2
            have hd0_wr : wr.cell? ⟨gt, 0, none⟩ = some (.int .i64 x0) := (blk_cell BT.out 0).trans rfl
            have he0_wr := blk_frozen BT.out 0
            have hd1_wr : wr.cell? ⟨gt, 1, none⟩ = some (.int .i64 x1) := (blk_cell BT.out 1).trans rfl
            have he1_wr := blk_frozen BT.out 1
            have hd2_wr : wr.cell? ⟨gt, 2, none⟩ = some (.int .i64 x2) := (blk_cell BT.out 2).trans rfl
            have he2_wr := blk_frozen BT.out 2
            rcases (show i = 0 ∨ i = 1 ∨ i = 2 by omega) with rfl | rfl | rfl
            · have hI2 : ∀ w', Sem.run Tryd.prog (Instr.index 41 (.agg #[.int .i64 1, .int .i64 2]) (.int .i64 0)) w' = .ok (.int .i64 1) w' := fun w' => by kernel_rfl
              have hp := HP0.out; have hbt := HBT0.out; have hr := HR0.out; have hst := HST0.out
              go_wp2_with fail
              go_roundg (gk - 1)
              case measure => omega
              case rel => exact ⟨1, by omega, rfl, BK, BT, HS0, HS1, HS2, HB⟩
            · have hI2 : ∀ w', Sem.run Tryd.prog (Instr.index 41 (.agg #[.int .i64 1, .int .i64 2]) (.int .i64 1)) w' = .ok (.int .i64 2) w' := fun w' => by kernel_rfl
              have hp := HP1.out; have hbt := HBT1.out; have hr := HR1.out; have hst := HST1.out
              go_wp2_with fail
              go_roundg (gk - 1)
              case measure => omega
              case rel => exact ⟨2, by omega, rfl, BK, BT, HS0, HS1, HS2, HB⟩
            · go_wp2_with fail
              go_roundg (gq - 1)
              case measure => omega
              case rel => exact ⟨2, by omega, rfl, BK, BT, HS0, HS1, HS2, HB⟩
        · have hs := HS2.out
          have hI : ∀ w', Sem.run Tryd.prog (Instr.index 42 (.agg #[.int .i64 0, .int .i64 2, .int .i64 1, .int .i64 2, .int .i64 0, .int .i64 1]) (.int .i64 2)) w' = .ok (.agg #[.int .i64 0, .int .i64 1]) w' := fun w' => by kernel_rfl
          have hJ : ∀ (x y z : Int) w', Sem.run Tryd.prog (Instr.index 39 (.agg #[.int .i64 x, .int .i64 y, .int .i64 z]) (.int .i64 2)) w' = .ok (.int .i64 z) w' := fun x y z w' => by kernel_rfl
          have hA0 : (wr.alloc (.cells #[.int .i64 0, .int .i64 1] 41)).cell? ⟨gb, 0, none⟩ = some (.int .i64 n) := (blk_cell (blk_alloc BK.out _) 0).trans rfl
          have hA1 : (wr.alloc (.cells #[.int .i64 0, .int .i64 1] 41)).cell? ⟨gb, 1, none⟩ = some (.int .i64 a) := (blk_cell (blk_alloc BK.out _) 1).trans rfl
          have hA2 : (wr.alloc (.cells #[.int .i64 0, .int .i64 1] 41)).cell? ⟨gb, 2, none⟩ = some (.int .i64 b) := (blk_cell (blk_alloc BK.out _) 2).trans rfl
          obtain ⟨u, hu⟩ : ∃ u, u = stepI n a b t 82 := ⟨_, rfl⟩
          have hup : up a b 82 = a := rfl
          have HU := Aside0.mk hu
          have hut : isTri n u = true := by rw [hu]; exact step_tri HK.out 82
          have HW1 := Aside0.mk (show triads_Walk.f n a b t ⟨#[82]⟩ = some (u, 0) by rw [hu]; exact walk_one hn ha hb HK.out HTr.out 82 rfl)
          have HW2 := Aside0.mk (show triads_Walk.f n a b u ⟨#[82]⟩ = some (t, 0) by have e1 := walk_one hn ha hb HK.out hut 82 rfl; have e2 := step_twice HK.out HTr.out 82; rw [show (((82 : UInt8).toNat : Nat) : Int) = 82 from rfl] at e1 e2; rw [hu] at e1 ⊢; rw [e2] at e1; exact e1)
          have hTu := Tones_f (n := n) (a := a) (b := b) u hn ha hb
          rw [HK.out, hut] at hTu
          obtain ⟨k2, hT2⟩ := Ev.rounds hTu
          obtain ⟨V, hV⟩ : ∃ V : Int, V = ((tonesN n a b u : Nat) : Int) := ⟨_, rfl⟩
          have HT2 := Aside0.mk (show triads_Tones.f k2 n a b u = some (V, 0) by rw [hV]; exact hT2)
          obtain ⟨hq1, hq2, hq3⟩ := step_bright HK.out (show t < n by omega) ht0 82
          rw [← hu] at hq1 hq3
          have hcmp : (u % n != (wrap64 ((wrap64 (x0 + a)).tmod n + n)).tmod n) = false := by rw [HX0b.out, tone_said HK.out HTr.out (a) (by omega) (by omega), hq3, hup]; simp
          obtain ⟨p0, hp0, hb0⟩ := bit_of (t := u) HK.out a (by simp) V x0 hV (HX0.out.trans (by rw [hu]; exact tone_kept HK.out HTr.out 82 0 a (by rw [hup]; all_goals omega)))
          obtain ⟨r0, hr0, hs0⟩ := bit_of (t := t) HK.out 0 (by simp) S x0 HS.out HX0.out
          obtain ⟨p1, hp1, hb1⟩ := bit_of (t := u) HK.out 0 (by simp) V x1 hV (HX1.out.trans (by rw [hu]; exact tone_kept HK.out HTr.out 82 a 0 (by rw [hup]; all_goals omega)))
          obtain ⟨r1, hr1, hs1⟩ := bit_of (t := t) HK.out a (by simp) S x1 HS.out HX1.out
          have hu0 : 0 ≤ u := (of_decide_eq_true hut).1
          have hu1 : u < 2 * n := (of_decide_eq_true hut).2
          have HQ1 := Aside0.mk hq1; have HQ2 := Aside0.mk hq2; have HCM := Aside0.mk hcmp
          have HP0 := Aside0.mk hp0; have HBT0 := Aside0.mk hb0; have HR0 := Aside0.mk hr0; have HST0 := Aside0.mk hs0
          have HP1 := Aside0.mk hp1; have HBT1 := Aside0.mk hb1; have HR1 := Aside0.mk hr1; have HST1 := Aside0.mk hs1
          clear hV hT2 hTu hu hup hut hq1 hq2 hq3 hcmp hp0 hb0 hr0 hs0 hp1 hb1 hr1 hs1
          go_wp2_with fail
          have BP := Aside0.mk (blk_new wr (.cells #[.int .i64 0, .int .i64 1] 41))
          have GP := Aside0.mk HB.out.size
          have HS0A := Aside0.mk ((World.cell?_alloc_lt wr (.cells #[.int .i64 0, .int .i64 1] 41) ⟨gs, 0, none⟩ (World.block_lt_of_cell? _ _ HS0.out)).trans HS0.out)
          have HS1A := Aside0.mk ((World.cell?_alloc_lt wr (.cells #[.int .i64 0, .int .i64 1] 41) ⟨gs, 1, none⟩ (World.block_lt_of_cell? _ _ HS1.out)).trans HS1.out)
          have HS2A := Aside0.mk ((World.cell?_alloc_lt wr (.cells #[.int .i64 0, .int .i64 1] 41) ⟨gs, 2, none⟩ (World.block_lt_of_cell? _ _ HS2.out)).trans HS2.out)
          have BKA := Aside0.mk (blk_alloc BK.out (.cells #[.int .i64 0, .int .i64 1] 41))
          have BTA := Aside0.mk (blk_alloc BT.out (.cells #[.int .i64 0, .int .i64 1] 41))
          have HBA := Aside0.mk (below_alloc HB.out (.cells #[.int .i64 0, .int .i64 1] 41))
          clear hA0 hA1 hA2 HS0 HS1 HS2 BK BT HB
          clear hc0_wr hf0_wr hc1_wr hf1_wr hc2_wr hf2_wr hd0_wr he0_wr hd1_wr he1_wr hd2_wr he2_wr hs
          generalize wr.alloc (.cells #[.int .i64 0, .int .i64 1] 41) = w8 at BP HS0A HS1A HS2A BKA BTA HBA ⊢
          generalize wr.heap.size = gp at BP GP ⊢
          have BK := BKA; have BT := BTA; have HB := HBA; have HS0 := HS0A; have HS1 := HS1A; have HS2 := HS2A
          clear BKA BTA HBA HS0A HS1A HS2A
          refine (sackbutlaw04_Of.calls n a b _ _ _ _ rfl).mono ?_
          rintro e_ w9 ⟨rfl, hb⟩
          have m0 := Aside0.mk (blk_below BK.out hb); have m1 := Aside0.mk (blk_below BT.out hb); have m2 := Aside0.mk (blk_below BP.out hb); have m3 := Aside0.mk (below_step HB.out hb)
          have m4 := Aside0.mk ((hb.cell (World.block_lt_of_cell? _ _ HS0.out)).trans HS0.out)
          have m5 := Aside0.mk ((hb.cell (World.block_lt_of_cell? _ _ HS1.out)).trans HS1.out)
          have m6 := Aside0.mk ((hb.cell (World.block_lt_of_cell? _ _ HS2.out)).trans HS2.out)
          clear BK BT BP HB HS0 HS1 HS2 hb
          have BK := m0; have BT := m1; have BP := m2; have HB := m3; have HS0 := m4; have HS1 := m5; have HS2 := m6
          clear m0 m1 m2 m3 m4 m5 m6
          have hc0_w9 : w9.cell? ⟨gb, 0, none⟩ = some (.int .i64 n) := (blk_cell BK.out 0).trans rfl
          have hf0_w9 := blk_frozen BK.out 0
          have hc1_w9 : w9.cell? ⟨gb, 1, none⟩ = some (.int .i64 a) := (blk_cell BK.out 1).trans rfl
          have hf1_w9 := blk_frozen BK.out 1
          have hc2_w9 : w9.cell? ⟨gb, 2, none⟩ = some (.int .i64 b) := (blk_cell BK.out 2).trans rfl
          have hf2_w9 := blk_frozen BK.out 2
          go_wp2_with fail
          refine (triads_Walk.calls n a b t ⟨#[82]⟩ u 0 _ HW1.out).mono ?_
          rintro e_ w10 ⟨rfl, hb⟩
          have m0 := Aside0.mk (blk_below BK.out hb); have m1 := Aside0.mk (blk_below BT.out hb); have m2 := Aside0.mk (blk_below BP.out hb); have m3 := Aside0.mk (below_step HB.out hb)
          have m4 := Aside0.mk ((hb.cell (World.block_lt_of_cell? _ _ HS0.out)).trans HS0.out)
          have m5 := Aside0.mk ((hb.cell (World.block_lt_of_cell? _ _ HS1.out)).trans HS1.out)
          have m6 := Aside0.mk ((hb.cell (World.block_lt_of_cell? _ _ HS2.out)).trans HS2.out)
          clear BK BT BP HB HS0 HS1 HS2 hb hc0_w9 hf0_w9 hc1_w9 hf1_w9 hc2_w9 hf2_w9
          have BK := m0; have BT := m1; have BP := m2; have HB := m3; have HS0 := m4; have HS1 := m5; have HS2 := m6
          clear m0 m1 m2 m3 m4 m5 m6
          have hc0_w10 : w10.cell? ⟨gb, 0, none⟩ = some (.int .i64 n) := (blk_cell BK.out 0).trans rfl
          have hf0_w10 := blk_frozen BK.out 0
          have hc1_w10 : w10.cell? ⟨gb, 1, none⟩ = some (.int .i64 a) := (blk_cell BK.out 1).trans rfl
          have hf1_w10 := blk_frozen BK.out 1
          have hc2_w10 : w10.cell? ⟨gb, 2, none⟩ = some (.int .i64 b) := (blk_cell BK.out 2).trans rfl
          have hf2_w10 := blk_frozen BK.out 2
          go_wp2_with fail
          refine (sackbutlaw04_Of.calls n a b _ _ _ _ rfl).mono ?_
          rintro e_ w11 ⟨rfl, hb⟩
          have m0 := Aside0.mk (blk_below BK.out hb); have m1 := Aside0.mk (blk_below BT.out hb); have m2 := Aside0.mk (blk_below BP.out hb); have m3 := Aside0.mk (below_step HB.out hb)
          have m4 := Aside0.mk ((hb.cell (World.block_lt_of_cell? _ _ HS0.out)).trans HS0.out)
          have m5 := Aside0.mk ((hb.cell (World.block_lt_of_cell? _ _ HS1.out)).trans HS1.out)
          have m6 := Aside0.mk ((hb.cell (World.block_lt_of_cell? _ _ HS2.out)).trans HS2.out)
          clear BK BT BP HB HS0 HS1 HS2 hb hc0_w10 hf0_w10 hc1_w10 hf1_w10 hc2_w10 hf2_w10
          have BK := m0; have BT := m1; have BP := m2; have HB := m3; have HS0 := m4; have HS1 := m5; have HS2 := m6
          clear m0 m1 m2 m3 m4 m5 m6
          have hc0_w11 : w11.cell? ⟨gb, 0, none⟩ = some (.int .i64 n) := (blk_cell BK.out 0).trans rfl
          have hf0_w11 := blk_frozen BK.out 0
          have hc1_w11 : w11.cell? ⟨gb, 1, none⟩ = some (.int .i64 a) := (blk_cell BK.out 1).trans rfl
          have hf1_w11 := blk_frozen BK.out 1
          have hc2_w11 : w11.cell? ⟨gb, 2, none⟩ = some (.int .i64 b) := (blk_cell BK.out 2).trans rfl
          have hf2_w11 := blk_frozen BK.out 2
          go_wp2_with fail
          refine (triads_Walk.calls n a b u ⟨#[82]⟩ t 0 _ HW2.out).mono ?_
          rintro e_ w12 ⟨rfl, hb⟩
          have m0 := Aside0.mk (blk_below BK.out hb); have m1 := Aside0.mk (blk_below BT.out hb); have m2 := Aside0.mk (blk_below BP.out hb); have m3 := Aside0.mk (below_step HB.out hb)
          have m4 := Aside0.mk ((hb.cell (World.block_lt_of_cell? _ _ HS0.out)).trans HS0.out)
          have m5 := Aside0.mk ((hb.cell (World.block_lt_of_cell? _ _ HS1.out)).trans HS1.out)
          have m6 := Aside0.mk ((hb.cell (World.block_lt_of_cell? _ _ HS2.out)).trans HS2.out)
          clear BK BT BP HB HS0 HS1 HS2 hb hc0_w11 hf0_w11 hc1_w11 hf1_w11 hc2_w11 hf2_w11
          have BK := m0; have BT := m1; have BP := m2; have HB := m3; have HS0 := m4; have HS1 := m5; have HS2 := m6
          clear m0 m1 m2 m3 m4 m5 m6
          have hc0_w12 : w12.cell? ⟨gb, 0, none⟩ = some (.int .i64 n) := (blk_cell BK.out 0).trans rfl
          have hf0_w12 := blk_frozen BK.out 0
          have hc1_w12 : w12.cell? ⟨gb, 1, none⟩ = some (.int .i64 a) := (blk_cell BK.out 1).trans rfl
          have hf1_w12 := blk_frozen BK.out 1
          have hc2_w12 : w12.cell? ⟨gb, 2, none⟩ = some (.int .i64 b) := (blk_cell BK.out 2).trans rfl
          have hf2_w12 := blk_frozen BK.out 2
          go_wp2_with fail
          refine (sackbutlaw04_Of.calls n a b _ _ _ _ rfl).mono ?_
          rintro e_ w13 ⟨rfl, hb⟩
          have m0 := Aside0.mk (blk_below BK.out hb); have m1 := Aside0.mk (blk_below BT.out hb); have m2 := Aside0.mk (blk_below BP.out hb); have m3 := Aside0.mk (below_step HB.out hb)
          have m4 := Aside0.mk ((hb.cell (World.block_lt_of_cell? _ _ HS0.out)).trans HS0.out)
          have m5 := Aside0.mk ((hb.cell (World.block_lt_of_cell? _ _ HS1.out)).trans HS1.out)
          have m6 := Aside0.mk ((hb.cell (World.block_lt_of_cell? _ _ HS2.out)).trans HS2.out)
          clear BK BT BP HB HS0 HS1 HS2 hb hc0_w12 hf0_w12 hc1_w12 hf1_w12 hc2_w12 hf2_w12
          have BK := m0; have BT := m1; have BP := m2; have HB := m3; have HS0 := m4; have HS1 := m5; have HS2 := m6
          clear m0 m1 m2 m3 m4 m5 m6
          have hc0_w13 : w13.cell? ⟨gb, 0, none⟩ = some (.int .i64 n) := (blk_cell BK.out 0).trans rfl
          have hf0_w13 := blk_frozen BK.out 0
          have hc1_w13 : w13.cell? ⟨gb, 1, none⟩ = some (.int .i64 a) := (blk_cell BK.out 1).trans rfl
          have hf1_w13 := blk_frozen BK.out 1
          have hc2_w13 : w13.cell? ⟨gb, 2, none⟩ = some (.int .i64 b) := (blk_cell BK.out 2).trans rfl
          have hf2_w13 := blk_frozen BK.out 2
          go_wp2_with fail
          refine (triads_Tones.calls k2 n a b u V 0 _ HT2.out).mono ?_
          rintro e_ w14 ⟨rfl, hb⟩
          have m0 := Aside0.mk (blk_below BK.out hb); have m1 := Aside0.mk (blk_below BT.out hb); have m2 := Aside0.mk (blk_below BP.out hb); have m3 := Aside0.mk (below_step HB.out hb)
          have m4 := Aside0.mk ((hb.cell (World.block_lt_of_cell? _ _ HS0.out)).trans HS0.out)
          have m5 := Aside0.mk ((hb.cell (World.block_lt_of_cell? _ _ HS1.out)).trans HS1.out)
          have m6 := Aside0.mk ((hb.cell (World.block_lt_of_cell? _ _ HS2.out)).trans HS2.out)
          clear BK BT BP HB HS0 HS1 HS2 hb hc0_w13 hf0_w13 hc1_w13 hf1_w13 hc2_w13 hf2_w13
          have BK := m0; have BT := m1; have BP := m2; have HB := m3; have HS0 := m4; have HS1 := m5; have HS2 := m6
          clear m0 m1 m2 m3 m4 m5 m6
          have hc0_w14 : w14.cell? ⟨gb, 0, none⟩ = some (.int .i64 n) := (blk_cell BK.out 0).trans rfl
          have hf0_w14 := blk_frozen BK.out 0
          have hc1_w14 : w14.cell? ⟨gb, 1, none⟩ = some (.int .i64 a) := (blk_cell BK.out 1).trans rfl
          have hf1_w14 := blk_frozen BK.out 1
          have hc2_w14 : w14.cell? ⟨gb, 2, none⟩ = some (.int .i64 b) := (blk_cell BK.out 2).trans rfl
          have hf2_w14 := blk_frozen BK.out 2
          have hq1 := HQ1.out; have hq2 := HQ2.out; have hcmp := HCM.out
          go_wp2_with fail
          go_region
          have hp0 : w14.cell? ⟨gp, 0, none⟩ = some (.int .i64 0) := (blk_cell BP.out 0).trans rfl
          have hp1 : w14.cell? ⟨gp, 1, none⟩ = some (.int .i64 1) := (blk_cell BP.out 1).trans rfl
          have hpd0 : w14.drew.cell? ⟨gp, 0, none⟩ = some (.int .i64 0) := hp0
          have hpd1 : w14.drew.cell? ⟨gp, 1, none⟩ = some (.int .i64 1) := hp1
          go_wp2_with fail
          clear hp0 hp1 hpd0 hpd1 hq1 hq2 hcmp hI hJ hc0_w14 hf0_w14 hc1_w14 hf1_w14 hc2_w14 hf2_w14
          obtain ⟨wo, rfl⟩ : ∃ wo : World, wo = wr := ⟨_, rfl⟩
          obtain ⟨gq, rfl⟩ : ∃ gq : Nat, gq = gk := ⟨_, rfl⟩
          go_loopg [169] 2 (fun gk2 v wr2 => ∃ i : Nat, gk2 + i = 2 ∧ v = .int .i64 (i : Int) ∧ Aside0 (wr2.heap[gb]? = some (.cells #[.int .i64 n, .int .i64 a, .int .i64 b] 23 (0, 0))) ∧ Aside0 (wr2.heap[gt]? = some (.cells #[.int .i64 x0, .int .i64 x1, .int .i64 x2] 39 (0, 0))) ∧ Aside0 (wr2.cell? ⟨gs, 0, none⟩ = some (.string ⟨#[80]⟩)) ∧ Aside0 (wr2.cell? ⟨gs, 1, none⟩ = some (.string ⟨#[76]⟩)) ∧ Aside0 (wr2.cell? ⟨gs, 2, none⟩ = some (.string ⟨#[82]⟩)) ∧ Aside0 (Below w.heap.size w wr2))
          case atStart => exact ⟨0, rfl, rfl, BK, BT, HS0, HS1, HS2, ⟨HB.out.drew⟩⟩
          case round =>
            clear BK BT HS0 HS1 HS2 HB BP
            obtain ⟨i, hgi, rfl, BK, BT, HS0, HS1, HS2, HB⟩ := hrel
            have hc0_wr : wr.cell? ⟨gb, 0, none⟩ = some (.int .i64 n) := (blk_cell BK.out 0).trans rfl
            have hf0_wr := blk_frozen BK.out 0
            have hc1_wr : wr.cell? ⟨gb, 1, none⟩ = some (.int .i64 a) := (blk_cell BK.out 1).trans rfl
            have hf1_wr := blk_frozen BK.out 1
            have hc2_wr : wr.cell? ⟨gb, 2, none⟩ = some (.int .i64 b) := (blk_cell BK.out 2).trans rfl
            have hf2_wr := blk_frozen BK.out 2
            have hd0_wr : wr.cell? ⟨gt, 0, none⟩ = some (.int .i64 x0) := (blk_cell BT.out 0).trans rfl
            have he0_wr := blk_frozen BT.out 0
            have hd1_wr : wr.cell? ⟨gt, 1, none⟩ = some (.int .i64 x1) := (blk_cell BT.out 1).trans rfl
            have he1_wr := blk_frozen BT.out 1
            have hd2_wr : wr.cell? ⟨gt, 2, none⟩ = some (.int .i64 x2) := (blk_cell BT.out 2).trans rfl
            have he2_wr := blk_frozen BT.out 2
            rcases (show i = 0 ∨ i = 1 ∨ i = 2 by omega) with rfl | rfl | rfl
            · have hI2 : ∀ w', Sem.run Tryd.prog (Instr.index 41 (.agg #[.int .i64 0, .int .i64 1]) (.int .i64 0)) w' = .ok (.int .i64 0) w' := fun w' => by kernel_rfl
              have hp := HP0.out; have hbt := HBT0.out; have hr := HR0.out; have hst := HST0.out
              go_wp2_with fail
              go_roundg (gk - 1)
              case measure => omega
              case rel => exact ⟨1, by omega, rfl, BK, BT, HS0, HS1, HS2, HB⟩
            · have hI2 : ∀ w', Sem.run Tryd.prog (Instr.index 41 (.agg #[.int .i64 0, .int .i64 1]) (.int .i64 1)) w' = .ok (.int .i64 1) w' := fun w' => by kernel_rfl
              have hp := HP1.out; have hbt := HBT1.out; have hr := HR1.out; have hst := HST1.out
              go_wp2_with fail
              go_roundg (gk - 1)
              case measure => omega
              case rel => exact ⟨2, by omega, rfl, BK, BT, HS0, HS1, HS2, HB⟩
            · go_wp2_with fail
              go_roundg (gq - 1)
              case measure => omega
              case rel => exact ⟨3, by omega, rfl, BK, BT, HS0, HS1, HS2, HB⟩
        · go_wp2_with (first | (go_at_call 20; refine (sackbutlaw04_awake.calls true _ Base.awake_f).mono ?_; rintro e_ w15 ⟨rfl, hb⟩; have n0_ := Aside0.mk (blk_below (g := gb) (o := .cells #[.int .i64 n, .int .i64 a, .int .i64 b] 23 (0, 0)) (by (with_reducible repeat (first | refine blk_drewN ?_ _ | refine blk_drew ?_ | refine blk_alloc ?_ _)); exact BK.out) hb); have n1_ := Aside0.mk (below_step (by repeat (first | (with_reducible first | exact HB.out | apply below_alloc | apply pw_below_drewN | apply below_drew1 | refine below_set ?_ GE.out) | exact HB.out)) hb); clear BK HB; have BK := n0_; have HB := n1_; clear n0_ n1_ hb; have hc0_w15 : w15.cell? ⟨gb, 0, none⟩ = some (.int .i64 n) := (blk_cell BK.out 0).trans rfl; have hf0_w15 := blk_frozen BK.out 0; have hc1_w15 : w15.cell? ⟨gb, 1, none⟩ = some (.int .i64 a) := (blk_cell BK.out 1).trans rfl; have hf1_w15 := blk_frozen BK.out 1; have hc2_w15 : w15.cell? ⟨gb, 2, none⟩ = some (.int .i64 b) := (blk_cell BK.out 2).trans rfl; have hf2_w15 := blk_frozen BK.out 2; ))
          go_ret
          exact ⟨rfl, HB.out⟩
end
end Go.Proofs.YtpaeobpmkdekfaaDoor.P
end
