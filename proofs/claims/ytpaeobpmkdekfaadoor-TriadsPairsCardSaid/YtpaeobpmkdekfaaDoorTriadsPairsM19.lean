/- Texts that the proof of TriadsPairs needs, put together in build order by this session's program (wip/tools/claimtrim.py). -/
import Derived.Test.YtpaeobpmkdekfaaDoorTriadsPairsM16
import Derived.Test.YtpaeobpmkdekfaaDoorTriadsPairsM18
import Derived.Outline
import Derived.IntWalk
import Derived.Deep.QuietTactic
import Derived.BigQuiet
section
namespace Go.Proofs.YtpaeobpmkdekfaaDoor.P
open Go.RowKit Go.Proofs.YtpaeobpmkdekfaaDoorW.PrintWords Go.Proofs.YtpaeobpmkdekfaaDoorW.PrintLast Go.Proofs.YtpaeobpmkdekfaaDoorW.PrintMore
set_option linter.unusedVariables false
section
open Go.Proofs.YtpaeobpmkdekfaaDoor.Base Go.Proofs.YtpaeobpmkdekfaaDoor.Kit
set_option maxHeartbeats 60000000 in
set_option maxRecDepth 100000 in
theorem sackbutlaw04_TriadsPairs.calls (n a b t : Int) (hn : Int64 n) (ha : Int64 a) (hb : Int64 b) (w : World) :
    Calls Tryd.prog 14 #[.agg #[.int .i64 n, .int .i64 a, .int .i64 b], .int .i64 t] w fun e w' => e = .returned (.bool true) ∧ Below w.heap.size w w' := by
  have hF := fine_f n a b t hn ha hb
  obtain ⟨kF, HF0⟩ := Ev.rounds hF
  have HF := Aside0.mk HF0
  clear hF HF0
  cases hk : (isKind n a b && isTri n t) with
  | false =>
    have HRE := Aside0.mk (show triads_Round.f n a b t ⟨#[80, 76]⟩ = some ([], 2) by rw [round_f n a b t _ (by decide) hn ha hb, hk]; rfl)
    rw [hk] at HF
    clear hk
    go_enter Tryd.func14, Tryd.ntmps14
    go_wp2_with (first | ((with_reducible refine gate_dst (N := 2) rfl ?_); (try (refine gate_guard (by rfl) ?_; dsimp only)); refine box_event ?hg (N := 2) ?hd (cs := #[.int .i64 n, .int .i64 a, .int .i64 b]) (t := 23) ?hr ?_; (case hd => rfl); (case hg => rfl); (case hr => first | (go_simp; done) | (go_simp; rfl)); intro gb hg w1 hbox hb; have HB := Aside0.mk (below_step (Below.refl _ w) hb); have BK := Aside0.mk hbox; have GE := Aside0.mk (show w.heap.size ≤ gb by omega); have hc0_w1 : w1.cell? ⟨gb, 0, none⟩ = some (.int .i64 n) := (blk_cell BK.out 0).trans rfl; have hf0_w1 := blk_frozen BK.out 0; have hc1_w1 : w1.cell? ⟨gb, 1, none⟩ = some (.int .i64 a) := (blk_cell BK.out 1).trans rfl; have hf1_w1 := blk_frozen BK.out 1; have hc2_w1 : w1.cell? ⟨gb, 2, none⟩ = some (.int .i64 b) := (blk_cell BK.out 2).trans rfl; have hf2_w1 := blk_frozen BK.out 2; clear hb hbox hg) | ((with_reducible refine gate_dst (N := 14) rfl ?_); (try (refine gate_guard (by rfl) ?_; dsimp only)); refine Kd.R_lit (Kd.int .i64) _ 3 ?hg (N := 14) ?hd (xs := ([t] : List Int)) (inner := [.int .i64 t]) (ok := fun _ => True) (okp := fun _ => True) ?hr ?hp (fun _ hk => hk) trivial (Below.refl _ _) (Nat.le_refl _) (by simp) ?_; (case hd => rfl); (case hg => rfl); (case hr => first | (go_simp; done) | (go_simp; rfl)); (case hp => exact (Reps.one (show Kd.M (Kd.int .i64) _ _ _ t [.int .i64 t] from rfl) (Reps.none _ _))); intro v4 w4 ho hb hg_ hnew_; clear hg_ hnew_; have HO := Aside0.mk ho; clear ho; have n0_ := Aside0.mk (blk_below (g := gb) (o := .cells #[.int .i64 n, .int .i64 a, .int .i64 b] 23 (0, 0)) (by (with_reducible repeat (first | refine blk_drewN ?_ _ | refine blk_drew ?_ | refine blk_alloc ?_ _)); exact BK.out) hb); have n1_ := Aside0.mk (below_step (by repeat (first | (with_reducible first | exact HB.out | apply below_alloc | apply pw_below_drewN | apply below_drew1 | refine below_set ?_ GE.out) | exact HB.out)) hb); clear BK HB; have BK := n0_; have HB := n1_; clear n0_ n1_ hb; have hc0_w4 : w4.cell? ⟨gb, 0, none⟩ = some (.int .i64 n) := (blk_cell BK.out 0).trans rfl; have hf0_w4 := blk_frozen BK.out 0; have hc1_w4 : w4.cell? ⟨gb, 1, none⟩ = some (.int .i64 a) := (blk_cell BK.out 1).trans rfl; have hf1_w4 := blk_frozen BK.out 1; have hc2_w4 : w4.cell? ⟨gb, 2, none⟩ = some (.int .i64 b) := (blk_cell BK.out 2).trans rfl; have hf2_w4 := blk_frozen BK.out 2; obtain ⟨Ao, co, eo⟩ := Kd.R_slice HO.out; subst eo) | (go_at_call 19; refine (sackbutlaw04_fine.calls kF n a b _ _ ([t] : List Int) false _ ?side1 ?side2 HF.out).mono ?_; (case side1 => repeat (first | exact (Kd.R_reads' HO.out).2.2 | (with_reducible refine Kd.C_alloc ?_ _) | (with_reducible refine Kd.C_drewN ?_ _) | (with_reducible refine Kd.C_drew ?_))); (case side2 => exact (Kd.R_reads' HO.out).2.1); rintro e_ w5 ⟨rfl, hb⟩; clear HO; have n0_ := Aside0.mk (blk_below (g := gb) (o := .cells #[.int .i64 n, .int .i64 a, .int .i64 b] 23 (0, 0)) (by (with_reducible repeat (first | refine blk_drewN ?_ _ | refine blk_drew ?_ | refine blk_alloc ?_ _)); exact BK.out) hb); have n1_ := Aside0.mk (below_step (by repeat (first | (with_reducible first | exact HB.out | apply below_alloc | apply pw_below_drewN | apply below_drew1 | refine below_set ?_ GE.out) | exact HB.out)) hb); clear BK HB; have BK := n0_; have HB := n1_; clear n0_ n1_ hb; have hc0_w5 : w5.cell? ⟨gb, 0, none⟩ = some (.int .i64 n) := (blk_cell BK.out 0).trans rfl; have hf0_w5 := blk_frozen BK.out 0; have hc1_w5 : w5.cell? ⟨gb, 1, none⟩ = some (.int .i64 a) := (blk_cell BK.out 1).trans rfl; have hf1_w5 := blk_frozen BK.out 1; have hc2_w5 : w5.cell? ⟨gb, 2, none⟩ = some (.int .i64 b) := (blk_cell BK.out 2).trans rfl; have hf2_w5 := blk_frozen BK.out 2; ) | (go_at_call 17; refine (sackbutlaw04_Of.calls n a b _ _ _ _ rfl).mono ?_; rintro e_ w2 ⟨rfl, hb⟩; have n0_ := Aside0.mk (blk_below (g := gb) (o := .cells #[.int .i64 n, .int .i64 a, .int .i64 b] 23 (0, 0)) (by (with_reducible repeat (first | refine blk_drewN ?_ _ | refine blk_drew ?_ | refine blk_alloc ?_ _)); exact BK.out) hb); have n1_ := Aside0.mk (below_step (by repeat (first | (with_reducible first | exact HB.out | apply below_alloc | apply pw_below_drewN | apply below_drew1 | refine below_set ?_ GE.out) | exact HB.out)) hb); clear BK HB; have BK := n0_; have HB := n1_; clear n0_ n1_ hb; have hc0_w2 : w2.cell? ⟨gb, 0, none⟩ = some (.int .i64 n) := (blk_cell BK.out 0).trans rfl; have hf0_w2 := blk_frozen BK.out 0; have hc1_w2 : w2.cell? ⟨gb, 1, none⟩ = some (.int .i64 a) := (blk_cell BK.out 1).trans rfl; have hf1_w2 := blk_frozen BK.out 1; have hc2_w2 : w2.cell? ⟨gb, 2, none⟩ = some (.int .i64 b) := (blk_cell BK.out 2).trans rfl; have hf2_w2 := blk_frozen BK.out 2; ) | (go_at_call 47; refine (triads_Round.calls n a b t ⟨#[80, 76]⟩ [] 2 _ HRE.out).mono ?_; rintro e_ w7 ⟨v7, rfl, ho, hb⟩; clear ho; have n0_ := Aside0.mk (blk_below (g := gb) (o := .cells #[.int .i64 n, .int .i64 a, .int .i64 b] 23 (0, 0)) (by (with_reducible repeat (first | refine blk_drewN ?_ _ | refine blk_drew ?_ | refine blk_alloc ?_ _)); exact BK.out) hb); have n1_ := Aside0.mk (below_step (by repeat (first | (with_reducible first | exact HB.out | apply below_alloc | apply pw_below_drewN | apply below_drew1 | refine below_set ?_ GE.out) | exact HB.out)) hb); clear BK HB; have BK := n0_; have HB := n1_; clear n0_ n1_ hb; have hc0_w7 : w7.cell? ⟨gb, 0, none⟩ = some (.int .i64 n) := (blk_cell BK.out 0).trans rfl; have hf0_w7 := blk_frozen BK.out 0; have hc1_w7 : w7.cell? ⟨gb, 1, none⟩ = some (.int .i64 a) := (blk_cell BK.out 1).trans rfl; have hf1_w7 := blk_frozen BK.out 1; have hc2_w7 : w7.cell? ⟨gb, 2, none⟩ = some (.int .i64 b) := (blk_cell BK.out 2).trans rfl; have hf2_w7 := blk_frozen BK.out 2; ) | (go_at_call 20; refine (sackbutlaw04_awake.calls true _ Base.awake_f).mono ?_; rintro e_ w8 ⟨rfl, hb⟩; have n0_ := Aside0.mk (blk_below (g := gb) (o := .cells #[.int .i64 n, .int .i64 a, .int .i64 b] 23 (0, 0)) (by (with_reducible repeat (first | refine blk_drewN ?_ _ | refine blk_drew ?_ | refine blk_alloc ?_ _)); exact BK.out) hb); have n1_ := Aside0.mk (below_step (by repeat (first | (with_reducible first | exact HB.out | apply below_alloc | apply pw_below_drewN | apply below_drew1 | refine below_set ?_ GE.out) | exact HB.out)) hb); clear BK HB; have BK := n0_; have HB := n1_; clear n0_ n1_ hb; have hc0_w8 : w8.cell? ⟨gb, 0, none⟩ = some (.int .i64 n) := (blk_cell BK.out 0).trans rfl; have hf0_w8 := blk_frozen BK.out 0; have hc1_w8 : w8.cell? ⟨gb, 1, none⟩ = some (.int .i64 a) := (blk_cell BK.out 1).trans rfl; have hf1_w8 := blk_frozen BK.out 1; have hc2_w8 : w8.cell? ⟨gb, 2, none⟩ = some (.int .i64 b) := (blk_cell BK.out 2).trans rfl; have hf2_w8 := blk_frozen BK.out 2; ))
    go_ret
    exact ⟨rfl, HB.out⟩
  | true =>
    rw [hk] at HF
    obtain ⟨hk1, hk2⟩ := Bool.and_eq_true_iff.1 hk
    have HK := Aside0.mk hk1
    have HTr := Aside0.mk hk2
    have hn5 : 5 ≤ n := (of_decide_eq_true hk1).1
    have hn16 : n ≤ 16 := (of_decide_eq_true hk1).2.1
    have ha0 : 0 < a := (of_decide_eq_true hk1).2.2.1
    have hab : a < b := (of_decide_eq_true hk1).2.2.2.1
    have hbn : b < n := (of_decide_eq_true hk1).2.2.2.2.1
    have ht0 : 0 ≤ t := (of_decide_eq_true hk2).1
    have ht1 : t < 2 * n := (of_decide_eq_true hk2).2
    clear hk hk1 hk2
    go_enter Tryd.func14, Tryd.ntmps14
    go_wp2_with (first | ((with_reducible refine gate_dst (N := 2) rfl ?_); (try (refine gate_guard (by rfl) ?_; dsimp only)); refine box_event ?hg (N := 2) ?hd (cs := #[.int .i64 n, .int .i64 a, .int .i64 b]) (t := 23) ?hr ?_; (case hd => rfl); (case hg => rfl); (case hr => first | (go_simp; done) | (go_simp; rfl)); intro gb hg w1 hbox hb; have HB := Aside0.mk (below_step (Below.refl _ w) hb); have BK := Aside0.mk hbox; have GE := Aside0.mk (show w.heap.size ≤ gb by omega); have hc0_w1 : w1.cell? ⟨gb, 0, none⟩ = some (.int .i64 n) := (blk_cell BK.out 0).trans rfl; have hf0_w1 := blk_frozen BK.out 0; have hc1_w1 : w1.cell? ⟨gb, 1, none⟩ = some (.int .i64 a) := (blk_cell BK.out 1).trans rfl; have hf1_w1 := blk_frozen BK.out 1; have hc2_w1 : w1.cell? ⟨gb, 2, none⟩ = some (.int .i64 b) := (blk_cell BK.out 2).trans rfl; have hf2_w1 := blk_frozen BK.out 2; clear hb hbox hg) | ((with_reducible refine gate_dst (N := 14) rfl ?_); (try (refine gate_guard (by rfl) ?_; dsimp only)); refine Kd.R_lit (Kd.int .i64) _ 3 ?hg (N := 14) ?hd (xs := ([t] : List Int)) (inner := [.int .i64 t]) (ok := fun _ => True) (okp := fun _ => True) ?hr ?hp (fun _ hk => hk) trivial (Below.refl _ _) (Nat.le_refl _) (by simp) ?_; (case hd => rfl); (case hg => rfl); (case hr => first | (go_simp; done) | (go_simp; rfl)); (case hp => exact (Reps.one (show Kd.M (Kd.int .i64) _ _ _ t [.int .i64 t] from rfl) (Reps.none _ _))); intro v4 w4 ho hb hg_ hnew_; clear hg_ hnew_; have HO := Aside0.mk ho; clear ho; have n0_ := Aside0.mk (blk_below (g := gb) (o := .cells #[.int .i64 n, .int .i64 a, .int .i64 b] 23 (0, 0)) (by (with_reducible repeat (first | refine blk_drewN ?_ _ | refine blk_drew ?_ | refine blk_alloc ?_ _)); exact BK.out) hb); have n1_ := Aside0.mk (below_step (by repeat (first | (with_reducible first | exact HB.out | apply below_alloc | apply pw_below_drewN | apply below_drew1 | refine below_set ?_ GE.out) | exact HB.out)) hb); clear BK HB; have BK := n0_; have HB := n1_; clear n0_ n1_ hb; have hc0_w4 : w4.cell? ⟨gb, 0, none⟩ = some (.int .i64 n) := (blk_cell BK.out 0).trans rfl; have hf0_w4 := blk_frozen BK.out 0; have hc1_w4 : w4.cell? ⟨gb, 1, none⟩ = some (.int .i64 a) := (blk_cell BK.out 1).trans rfl; have hf1_w4 := blk_frozen BK.out 1; have hc2_w4 : w4.cell? ⟨gb, 2, none⟩ = some (.int .i64 b) := (blk_cell BK.out 2).trans rfl; have hf2_w4 := blk_frozen BK.out 2; obtain ⟨Ao, co, eo⟩ := Kd.R_slice HO.out; subst eo) | (go_at_call 19; refine (sackbutlaw04_fine.calls kF n a b _ _ ([t] : List Int) true _ ?side1 ?side2 HF.out).mono ?_; (case side1 => repeat (first | exact (Kd.R_reads' HO.out).2.2 | (with_reducible refine Kd.C_alloc ?_ _) | (with_reducible refine Kd.C_drewN ?_ _) | (with_reducible refine Kd.C_drew ?_))); (case side2 => exact (Kd.R_reads' HO.out).2.1); rintro e_ w5 ⟨rfl, hb⟩; clear HO; have n0_ := Aside0.mk (blk_below (g := gb) (o := .cells #[.int .i64 n, .int .i64 a, .int .i64 b] 23 (0, 0)) (by (with_reducible repeat (first | refine blk_drewN ?_ _ | refine blk_drew ?_ | refine blk_alloc ?_ _)); exact BK.out) hb); have n1_ := Aside0.mk (below_step (by repeat (first | (with_reducible first | exact HB.out | apply below_alloc | apply pw_below_drewN | apply below_drew1 | refine below_set ?_ GE.out) | exact HB.out)) hb); clear BK HB; have BK := n0_; have HB := n1_; clear n0_ n1_ hb; have hc0_w5 : w5.cell? ⟨gb, 0, none⟩ = some (.int .i64 n) := (blk_cell BK.out 0).trans rfl; have hf0_w5 := blk_frozen BK.out 0; have hc1_w5 : w5.cell? ⟨gb, 1, none⟩ = some (.int .i64 a) := (blk_cell BK.out 1).trans rfl; have hf1_w5 := blk_frozen BK.out 1; have hc2_w5 : w5.cell? ⟨gb, 2, none⟩ = some (.int .i64 b) := (blk_cell BK.out 2).trans rfl; have hf2_w5 := blk_frozen BK.out 2; ) | ((with_reducible refine gate_dst (N := 29) rfl ?_); (try (refine gate_guard (by rfl) ?_; dsimp only)); refine Kd.R_lit Kd.string _ 9 ?hg (N := 29) ?hd (xs := ([⟨#[80, 76]⟩, ⟨#[80, 82]⟩, ⟨#[76, 82]⟩, ⟨#[76, 80]⟩, ⟨#[82, 80]⟩, ⟨#[82, 76]⟩] : List ByteArray)) (inner := [.string ⟨#[80, 76]⟩, .string ⟨#[80, 82]⟩, .string ⟨#[76, 82]⟩, .string ⟨#[76, 80]⟩, .string ⟨#[82, 80]⟩, .string ⟨#[82, 76]⟩]) (ok := fun _ => True) (okp := fun _ => True) ?hr ?hp (fun _ hk => hk) trivial (Below.refl _ _) (Nat.le_refl _) (by simp) ?_; (case hd => rfl); (case hg => rfl); (case hr => first | (go_simp; done) | (go_simp; rfl)); (case hp => exact (Reps.one (show Kd.M Kd.string _ _ _ (⟨#[80, 76]⟩ : ByteArray) [.string ⟨#[80, 76]⟩] from rfl) (Reps.one (show Kd.M Kd.string _ _ _ (⟨#[80, 82]⟩ : ByteArray) [.string ⟨#[80, 82]⟩] from rfl) (Reps.one (show Kd.M Kd.string _ _ _ (⟨#[76, 82]⟩ : ByteArray) [.string ⟨#[76, 82]⟩] from rfl) (Reps.one (show Kd.M Kd.string _ _ _ (⟨#[76, 80]⟩ : ByteArray) [.string ⟨#[76, 80]⟩] from rfl) (Reps.one (show Kd.M Kd.string _ _ _ (⟨#[82, 80]⟩ : ByteArray) [.string ⟨#[82, 80]⟩] from rfl) (Reps.one (show Kd.M Kd.string _ _ _ (⟨#[82, 76]⟩ : ByteArray) [.string ⟨#[82, 76]⟩] from rfl) (Reps.none _ _)))))))); intro v7 w7 ho hb hg_ hnew_; clear hg_ hnew_; have HO := Aside0.mk ho; clear ho; have n0_ := Aside0.mk (blk_below (g := gb) (o := .cells #[.int .i64 n, .int .i64 a, .int .i64 b] 23 (0, 0)) (by (with_reducible repeat (first | refine blk_drewN ?_ _ | refine blk_drew ?_ | refine blk_alloc ?_ _)); exact BK.out) hb); have n1_ := Aside0.mk (below_step (by repeat (first | (with_reducible first | exact HB.out | apply below_alloc | apply pw_below_drewN | apply below_drew1 | refine below_set ?_ GE.out) | exact HB.out)) hb); clear BK HB; have BK := n0_; have HB := n1_; clear n0_ n1_ hb; have hc0_w7 : w7.cell? ⟨gb, 0, none⟩ = some (.int .i64 n) := (blk_cell BK.out 0).trans rfl; have hf0_w7 := blk_frozen BK.out 0; have hc1_w7 : w7.cell? ⟨gb, 1, none⟩ = some (.int .i64 a) := (blk_cell BK.out 1).trans rfl; have hf1_w7 := blk_frozen BK.out 1; have hc2_w7 : w7.cell? ⟨gb, 2, none⟩ = some (.int .i64 b) := (blk_cell BK.out 2).trans rfl; have hf2_w7 := blk_frozen BK.out 2; obtain ⟨gs, cs, es, _⟩ := Kd.R_form HO.out (by decide); replace es : v7 = .slice (some ⟨gs, 0, none⟩) 6 cs := es; subst es))
    have HS0 := Aside0.mk (show w7.cell? ⟨gs, 0, none⟩ = some (.string ⟨#[80, 76]⟩) from (Kd.R_celln (d := ByteArray.empty) HO.out 0 (by decide) (by decide)).1)
    have HS1 := Aside0.mk (show w7.cell? ⟨gs, 1, none⟩ = some (.string ⟨#[80, 82]⟩) from (Kd.R_celln (d := ByteArray.empty) HO.out 1 (by decide) (by decide)).1)
    have HS2 := Aside0.mk (show w7.cell? ⟨gs, 2, none⟩ = some (.string ⟨#[76, 82]⟩) from (Kd.R_celln (d := ByteArray.empty) HO.out 2 (by decide) (by decide)).1)
    have HS3 := Aside0.mk (show w7.cell? ⟨gs, 3, none⟩ = some (.string ⟨#[76, 80]⟩) from (Kd.R_celln (d := ByteArray.empty) HO.out 3 (by decide) (by decide)).1)
    have HS4 := Aside0.mk (show w7.cell? ⟨gs, 4, none⟩ = some (.string ⟨#[82, 80]⟩) from (Kd.R_celln (d := ByteArray.empty) HO.out 4 (by decide) (by decide)).1)
    have HS5 := Aside0.mk (show w7.cell? ⟨gs, 5, none⟩ = some (.string ⟨#[82, 76]⟩) from (Kd.R_celln (d := ByteArray.empty) HO.out 5 (by decide) (by decide)).1)
    clear HO
    clear hc0_w1 hf0_w1 hc1_w1 hf1_w1 hc2_w1 hf2_w1 hc0_w4 hf0_w4 hc1_w4 hf1_w4 hc2_w4 hf2_w4 hc0_w5 hf0_w5 hc1_w5 hf1_w5 hc2_w5 hf2_w5 hc0_w7 hf0_w7 hc1_w7 hf1_w7 hc2_w7 hf2_w7
    go_loopg [31] 6 (fun gk v wr => ∃ j : Nat, gk + j = 6 ∧ v = .int .i64 (j : Int) ∧ Aside0 (wr.heap[gb]? = some (.cells #[.int .i64 n, .int .i64 a, .int .i64 b] 23 (0, 0))) ∧ Aside0 (wr.cell? ⟨gs, 0, none⟩ = some (.string ⟨#[80, 76]⟩)) ∧ Aside0 (wr.cell? ⟨gs, 1, none⟩ = some (.string ⟨#[80, 82]⟩)) ∧ Aside0 (wr.cell? ⟨gs, 2, none⟩ = some (.string ⟨#[76, 82]⟩)) ∧ Aside0 (wr.cell? ⟨gs, 3, none⟩ = some (.string ⟨#[76, 80]⟩)) ∧ Aside0 (wr.cell? ⟨gs, 4, none⟩ = some (.string ⟨#[82, 80]⟩)) ∧ Aside0 (wr.cell? ⟨gs, 5, none⟩ = some (.string ⟨#[82, 76]⟩)) ∧ Aside0 (Below w.heap.size w wr))
    case atStart => exact ⟨0, rfl, rfl, BK, HS0, HS1, HS2, HS3, HS4, HS5, HB⟩
    case round =>
      clear BK HS0 HS1 HS2 HS3 HS4 HS5 HB
      obtain ⟨j, hgj, rfl, BK, HS0, HS1, HS2, HS3, HS4, HS5, HB⟩ := hrel
      have hc0_wr : wr.cell? ⟨gb, 0, none⟩ = some (.int .i64 n) := (blk_cell BK.out 0).trans rfl
      have hf0_wr := blk_frozen BK.out 0
      have hc1_wr : wr.cell? ⟨gb, 1, none⟩ = some (.int .i64 a) := (blk_cell BK.out 1).trans rfl
      have hf1_wr := blk_frozen BK.out 1
      have hc2_wr : wr.cell? ⟨gb, 2, none⟩ = some (.int .i64 b) := (blk_cell BK.out 2).trans rfl
      have hf2_wr := blk_frozen BK.out 2
      rcases (show j = 0 ∨ j = 1 ∨ j = 2 ∨ j = 3 ∨ j = 4 ∨ j = 5 ∨ j = 6 by omega) with rfl | rfl | rfl | rfl | rfl | rfl | rfl
      · have hs := HS0.out
        have hJ : ∀ (x y z : Int) w', Sem.run Tryd.prog (Instr.index 39 (.agg #[.int .i64 x, .int .i64 y, .int .i64 z]) (.int .i64 0)) w' = .ok (.int .i64 x) w' := fun x y z w' => by kernel_rfl
        obtain ⟨L, hL⟩ : ∃ L, L = Slices.sorted ((searchL n a b [80, 76] t).map (·.1)) := ⟨_, rfl⟩
        have HR := Aside0.mk (show triads_Round.f n a b t ⟨#[80, 76]⟩ = some (L, 0) by rw [round_f n a b t _ (by decide) hn ha hb, HK.out, HTr.out, hL]; rfl)
        obtain ⟨g, kG, kS, kC, hG, hg0, hlen, hS, hC, hl32, hl0⟩ := pair_facts HK.out 80 76 t ht0 ht1 (a) (by omega) (by omega) (by first | (left; show b - (a + b) = _; omega) | (right; show b - (a + b) = _; omega)) L hL
        have HG := Aside0.mk hG; have HSo := Aside0.mk hS; have HCo := Aside0.mk hC; have HLn := Aside0.mk hlen
        clear hG hS hC hlen hL
        go_wp2_with fail
        refine (sackbutlaw04_Of.calls n a b _ _ _ _ rfl).mono ?_
        rintro e_ w9 ⟨rfl, hb⟩
        have m0 := Aside0.mk (blk_below BK.out hb); have m3 := Aside0.mk (below_step HB.out hb)
        have q0 := Aside0.mk ((hb.cell (World.block_lt_of_cell? _ _ HS0.out)).trans HS0.out)
        have q1 := Aside0.mk ((hb.cell (World.block_lt_of_cell? _ _ HS1.out)).trans HS1.out)
        have q2 := Aside0.mk ((hb.cell (World.block_lt_of_cell? _ _ HS2.out)).trans HS2.out)
        have q3 := Aside0.mk ((hb.cell (World.block_lt_of_cell? _ _ HS3.out)).trans HS3.out)
        have q4 := Aside0.mk ((hb.cell (World.block_lt_of_cell? _ _ HS4.out)).trans HS4.out)
        have q5 := Aside0.mk ((hb.cell (World.block_lt_of_cell? _ _ HS5.out)).trans HS5.out)
        clear BK HB HS0 HS1 HS2 HS3 HS4 HS5 hb hc0_wr hf0_wr hc1_wr hf1_wr hc2_wr hf2_wr hs
        have BK := m0; have HB := m3; have HS0 := q0; have HS1 := q1; have HS2 := q2; have HS3 := q3; have HS4 := q4; have HS5 := q5
        clear m0 m3 q0 q1 q2 q3 q4 q5
        have hc0_w9 : w9.cell? ⟨gb, 0, none⟩ = some (.int .i64 n) := (blk_cell BK.out 0).trans rfl
        have hf0_w9 := blk_frozen BK.out 0
        have hc1_w9 : w9.cell? ⟨gb, 1, none⟩ = some (.int .i64 a) := (blk_cell BK.out 1).trans rfl
        have hf1_w9 := blk_frozen BK.out 1
        have hc2_w9 : w9.cell? ⟨gb, 2, none⟩ = some (.int .i64 b) := (blk_cell BK.out 2).trans rfl
        have hf2_w9 := blk_frozen BK.out 2
        go_wp2_with fail
        refine (triads_Round.calls n a b t ⟨#[80, 76]⟩ L 0 _ HR.out).mono ?_
        rintro e_ w10 ⟨v10, rfl, ho, hb⟩
        have HO := Aside0.mk ho
        clear ho
        have m0 := Aside0.mk (blk_below BK.out hb); have m3 := Aside0.mk (below_step HB.out hb)
        have q0 := Aside0.mk ((hb.cell (World.block_lt_of_cell? _ _ HS0.out)).trans HS0.out)
        have q1 := Aside0.mk ((hb.cell (World.block_lt_of_cell? _ _ HS1.out)).trans HS1.out)
        have q2 := Aside0.mk ((hb.cell (World.block_lt_of_cell? _ _ HS2.out)).trans HS2.out)
        have q3 := Aside0.mk ((hb.cell (World.block_lt_of_cell? _ _ HS3.out)).trans HS3.out)
        have q4 := Aside0.mk ((hb.cell (World.block_lt_of_cell? _ _ HS4.out)).trans HS4.out)
        have q5 := Aside0.mk ((hb.cell (World.block_lt_of_cell? _ _ HS5.out)).trans HS5.out)
        clear BK HB HS0 HS1 HS2 HS3 HS4 HS5 hb hc0_w9 hf0_w9 hc1_w9 hf1_w9 hc2_w9 hf2_w9
        have BK := m0; have HB := m3; have HS0 := q0; have HS1 := q1; have HS2 := q2; have HS3 := q3; have HS4 := q4; have HS5 := q5
        clear m0 m3 q0 q1 q2 q3 q4 q5
        have hc0_w10 : w10.cell? ⟨gb, 0, none⟩ = some (.int .i64 n) := (blk_cell BK.out 0).trans rfl
        have hf0_w10 := blk_frozen BK.out 0
        have hc1_w10 : w10.cell? ⟨gb, 1, none⟩ = some (.int .i64 a) := (blk_cell BK.out 1).trans rfl
        have hf1_w10 := blk_frozen BK.out 1
        have hc2_w10 : w10.cell? ⟨gb, 2, none⟩ = some (.int .i64 b) := (blk_cell BK.out 2).trans rfl
        have hf2_w10 := blk_frozen BK.out 2
        obtain ⟨gl, cl, hv, _⟩ := Kd.R_form HO.out (by omega)
        subst hv
        go_wp2_with fail
        have hlenA : ((L.length : Int) != 2 * n / g) = false := by rw [← HLn.out]; simp
        have hlenT : ((L.length : Int) != (2 * n).tdiv g) = false := by rw [Int.tdiv_eq_ediv_of_nonneg (by omega), ← HLn.out]; simp
        have hg1 : (g == 0) = false := beq_eq_false_iff_ne.mpr (by omega)
        have hwr : IntKind.i64.wrap (2 * n) = 2 * n := by rw [IntKind.wrap_i64]; omega
        go_quiet ((first | (go_at_call 50; exact Calls.quiet_of ((sackbutlaw04_gcd.calls kG n (a) g _ HG.out).mono (fun _ _ ⟨he, hd⟩ => ⟨he, hd.out⟩))) | (go_at_call 51; exact Calls.quiet_of ((slices_IsSorted_int_int.calls kS (some ⟨gl, 0, none⟩) cl L true _ (Kd.C_drewN (Kd.R_reads' HO.out).2.2 _) (Kd.R_reads' HO.out).2.1 HSo.out).mono (fun _ _ ⟨he, hd⟩ => ⟨he, hd.out⟩))) | (go_at_call 52; exact Calls.quiet_of ((slices_Contains_int_int.calls kC (some ⟨gl, 0, none⟩) cl L t true _ (Kd.C_drewN (Kd.R_reads' HO.out).2.2 _) (Kd.R_reads' HO.out).2.1 HCo.out).mono (fun _ _ ⟨he, hd⟩ => ⟨he, hd.out⟩)))))
        clear hwr hlenA hlenT hg1
        go_wp2_with fail
        go_roundg (gk - 1)
        case measure => omega
        case rel => exact ⟨1, by omega, rfl, BK, HS0, HS1, HS2, HS3, HS4, HS5, ⟨pw_below_drewN HB.out _⟩⟩
      · have hs := HS1.out
        have hJ : ∀ (x y z : Int) w', Sem.run Tryd.prog (Instr.index 39 (.agg #[.int .i64 x, .int .i64 y, .int .i64 z]) (.int .i64 1)) w' = .ok (.int .i64 y) w' := fun x y z w' => by kernel_rfl
        obtain ⟨L, hL⟩ : ∃ L, L = Slices.sorted ((searchL n a b [80, 82] t).map (·.1)) := ⟨_, rfl⟩
        have HR := Aside0.mk (show triads_Round.f n a b t ⟨#[80, 82]⟩ = some (L, 0) by rw [round_f n a b t _ (by decide) hn ha hb, HK.out, HTr.out, hL]; rfl)
        obtain ⟨g, kG, kS, kC, hG, hg0, hlen, hS, hC, hl32, hl0⟩ := pair_facts HK.out 80 82 t ht0 ht1 (b - a) (by omega) (by omega) (by first | (left; show b - a = _; omega) | (right; show b - a = _; omega)) L hL
        have HG := Aside0.mk hG; have HSo := Aside0.mk hS; have HCo := Aside0.mk hC; have HLn := Aside0.mk hlen
        clear hG hS hC hlen hL
        go_wp2_with fail
        refine (sackbutlaw04_Of.calls n a b _ _ _ _ rfl).mono ?_
        rintro e_ w9 ⟨rfl, hb⟩
        have m0 := Aside0.mk (blk_below BK.out hb); have m3 := Aside0.mk (below_step HB.out hb)
        have q0 := Aside0.mk ((hb.cell (World.block_lt_of_cell? _ _ HS0.out)).trans HS0.out)
        have q1 := Aside0.mk ((hb.cell (World.block_lt_of_cell? _ _ HS1.out)).trans HS1.out)
        have q2 := Aside0.mk ((hb.cell (World.block_lt_of_cell? _ _ HS2.out)).trans HS2.out)
        have q3 := Aside0.mk ((hb.cell (World.block_lt_of_cell? _ _ HS3.out)).trans HS3.out)
        have q4 := Aside0.mk ((hb.cell (World.block_lt_of_cell? _ _ HS4.out)).trans HS4.out)
        have q5 := Aside0.mk ((hb.cell (World.block_lt_of_cell? _ _ HS5.out)).trans HS5.out)
        clear BK HB HS0 HS1 HS2 HS3 HS4 HS5 hb hc0_wr hf0_wr hc1_wr hf1_wr hc2_wr hf2_wr hs
        have BK := m0; have HB := m3; have HS0 := q0; have HS1 := q1; have HS2 := q2; have HS3 := q3; have HS4 := q4; have HS5 := q5
        clear m0 m3 q0 q1 q2 q3 q4 q5
        have hc0_w9 : w9.cell? ⟨gb, 0, none⟩ = some (.int .i64 n) := (blk_cell BK.out 0).trans rfl
        have hf0_w9 := blk_frozen BK.out 0
        have hc1_w9 : w9.cell? ⟨gb, 1, none⟩ = some (.int .i64 a) := (blk_cell BK.out 1).trans rfl
        have hf1_w9 := blk_frozen BK.out 1
        have hc2_w9 : w9.cell? ⟨gb, 2, none⟩ = some (.int .i64 b) := (blk_cell BK.out 2).trans rfl
        have hf2_w9 := blk_frozen BK.out 2
        go_wp2_with fail
        refine (triads_Round.calls n a b t ⟨#[80, 82]⟩ L 0 _ HR.out).mono ?_
        rintro e_ w10 ⟨v10, rfl, ho, hb⟩
        have HO := Aside0.mk ho
        clear ho
        have m0 := Aside0.mk (blk_below BK.out hb); have m3 := Aside0.mk (below_step HB.out hb)
        have q0 := Aside0.mk ((hb.cell (World.block_lt_of_cell? _ _ HS0.out)).trans HS0.out)
        have q1 := Aside0.mk ((hb.cell (World.block_lt_of_cell? _ _ HS1.out)).trans HS1.out)
        have q2 := Aside0.mk ((hb.cell (World.block_lt_of_cell? _ _ HS2.out)).trans HS2.out)
        have q3 := Aside0.mk ((hb.cell (World.block_lt_of_cell? _ _ HS3.out)).trans HS3.out)
        have q4 := Aside0.mk ((hb.cell (World.block_lt_of_cell? _ _ HS4.out)).trans HS4.out)
        have q5 := Aside0.mk ((hb.cell (World.block_lt_of_cell? _ _ HS5.out)).trans HS5.out)
        clear BK HB HS0 HS1 HS2 HS3 HS4 HS5 hb hc0_w9 hf0_w9 hc1_w9 hf1_w9 hc2_w9 hf2_w9
        have BK := m0; have HB := m3; have HS0 := q0; have HS1 := q1; have HS2 := q2; have HS3 := q3; have HS4 := q4; have HS5 := q5
        clear m0 m3 q0 q1 q2 q3 q4 q5
        have hc0_w10 : w10.cell? ⟨gb, 0, none⟩ = some (.int .i64 n) := (blk_cell BK.out 0).trans rfl
        have hf0_w10 := blk_frozen BK.out 0
        have hc1_w10 : w10.cell? ⟨gb, 1, none⟩ = some (.int .i64 a) := (blk_cell BK.out 1).trans rfl
        have hf1_w10 := blk_frozen BK.out 1
        have hc2_w10 : w10.cell? ⟨gb, 2, none⟩ = some (.int .i64 b) := (blk_cell BK.out 2).trans rfl
        have hf2_w10 := blk_frozen BK.out 2
        obtain ⟨gl, cl, hv, _⟩ := Kd.R_form HO.out (by omega)
        subst hv
        go_wp2_with fail
        have hlenA : ((L.length : Int) != 2 * n / g) = false := by rw [← HLn.out]; simp
        have hlenT : ((L.length : Int) != (2 * n).tdiv g) = false := by rw [Int.tdiv_eq_ediv_of_nonneg (by omega), ← HLn.out]; simp
        have hg1 : (g == 0) = false := beq_eq_false_iff_ne.mpr (by omega)
        have hwr : IntKind.i64.wrap (2 * n) = 2 * n := by rw [IntKind.wrap_i64]; omega
        go_quiet ((first | (go_at_call 50; exact Calls.quiet_of ((sackbutlaw04_gcd.calls kG n (b - a) g _ HG.out).mono (fun _ _ ⟨he, hd⟩ => ⟨he, hd.out⟩))) | (go_at_call 51; exact Calls.quiet_of ((slices_IsSorted_int_int.calls kS (some ⟨gl, 0, none⟩) cl L true _ (Kd.C_drewN (Kd.R_reads' HO.out).2.2 _) (Kd.R_reads' HO.out).2.1 HSo.out).mono (fun _ _ ⟨he, hd⟩ => ⟨he, hd.out⟩))) | (go_at_call 52; exact Calls.quiet_of ((slices_Contains_int_int.calls kC (some ⟨gl, 0, none⟩) cl L t true _ (Kd.C_drewN (Kd.R_reads' HO.out).2.2 _) (Kd.R_reads' HO.out).2.1 HCo.out).mono (fun _ _ ⟨he, hd⟩ => ⟨he, hd.out⟩)))))
        clear hwr hlenA hlenT hg1
        go_wp2_with fail
        go_roundg (gk - 1)
        case measure => omega
        case rel => exact ⟨2, by omega, rfl, BK, HS0, HS1, HS2, HS3, HS4, HS5, ⟨pw_below_drewN HB.out _⟩⟩
      · have hs := HS2.out
        have hJ : ∀ (x y z : Int) w', Sem.run Tryd.prog (Instr.index 39 (.agg #[.int .i64 x, .int .i64 y, .int .i64 z]) (.int .i64 2)) w' = .ok (.int .i64 z) w' := fun x y z w' => by kernel_rfl
        obtain ⟨L, hL⟩ : ∃ L, L = Slices.sorted ((searchL n a b [76, 82] t).map (·.1)) := ⟨_, rfl⟩
        have HR := Aside0.mk (show triads_Round.f n a b t ⟨#[76, 82]⟩ = some (L, 0) by rw [round_f n a b t _ (by decide) hn ha hb, HK.out, HTr.out, hL]; rfl)
        obtain ⟨g, kG, kS, kC, hG, hg0, hlen, hS, hC, hl32, hl0⟩ := pair_facts HK.out 76 82 t ht0 ht1 (b) (by omega) (by omega) (by first | (left; show (a + b) - a = _; omega) | (right; show (a + b) - a = _; omega)) L hL
        have HG := Aside0.mk hG; have HSo := Aside0.mk hS; have HCo := Aside0.mk hC; have HLn := Aside0.mk hlen
        clear hG hS hC hlen hL
        go_wp2_with fail
        refine (sackbutlaw04_Of.calls n a b _ _ _ _ rfl).mono ?_
        rintro e_ w9 ⟨rfl, hb⟩
        have m0 := Aside0.mk (blk_below BK.out hb); have m3 := Aside0.mk (below_step HB.out hb)
        have q0 := Aside0.mk ((hb.cell (World.block_lt_of_cell? _ _ HS0.out)).trans HS0.out)
        have q1 := Aside0.mk ((hb.cell (World.block_lt_of_cell? _ _ HS1.out)).trans HS1.out)
        have q2 := Aside0.mk ((hb.cell (World.block_lt_of_cell? _ _ HS2.out)).trans HS2.out)
        have q3 := Aside0.mk ((hb.cell (World.block_lt_of_cell? _ _ HS3.out)).trans HS3.out)
        have q4 := Aside0.mk ((hb.cell (World.block_lt_of_cell? _ _ HS4.out)).trans HS4.out)
        have q5 := Aside0.mk ((hb.cell (World.block_lt_of_cell? _ _ HS5.out)).trans HS5.out)
        clear BK HB HS0 HS1 HS2 HS3 HS4 HS5 hb hc0_wr hf0_wr hc1_wr hf1_wr hc2_wr hf2_wr hs
        have BK := m0; have HB := m3; have HS0 := q0; have HS1 := q1; have HS2 := q2; have HS3 := q3; have HS4 := q4; have HS5 := q5
        clear m0 m3 q0 q1 q2 q3 q4 q5
        have hc0_w9 : w9.cell? ⟨gb, 0, none⟩ = some (.int .i64 n) := (blk_cell BK.out 0).trans rfl
        have hf0_w9 := blk_frozen BK.out 0
        have hc1_w9 : w9.cell? ⟨gb, 1, none⟩ = some (.int .i64 a) := (blk_cell BK.out 1).trans rfl
        have hf1_w9 := blk_frozen BK.out 1
        have hc2_w9 : w9.cell? ⟨gb, 2, none⟩ = some (.int .i64 b) := (blk_cell BK.out 2).trans rfl
        have hf2_w9 := blk_frozen BK.out 2
        go_wp2_with fail
        refine (triads_Round.calls n a b t ⟨#[76, 82]⟩ L 0 _ HR.out).mono ?_
        rintro e_ w10 ⟨v10, rfl, ho, hb⟩
        have HO := Aside0.mk ho
        clear ho
        have m0 := Aside0.mk (blk_below BK.out hb); have m3 := Aside0.mk (below_step HB.out hb)
        have q0 := Aside0.mk ((hb.cell (World.block_lt_of_cell? _ _ HS0.out)).trans HS0.out)
        have q1 := Aside0.mk ((hb.cell (World.block_lt_of_cell? _ _ HS1.out)).trans HS1.out)
        have q2 := Aside0.mk ((hb.cell (World.block_lt_of_cell? _ _ HS2.out)).trans HS2.out)
        have q3 := Aside0.mk ((hb.cell (World.block_lt_of_cell? _ _ HS3.out)).trans HS3.out)
        have q4 := Aside0.mk ((hb.cell (World.block_lt_of_cell? _ _ HS4.out)).trans HS4.out)
        have q5 := Aside0.mk ((hb.cell (World.block_lt_of_cell? _ _ HS5.out)).trans HS5.out)
        clear BK HB HS0 HS1 HS2 HS3 HS4 HS5 hb hc0_w9 hf0_w9 hc1_w9 hf1_w9 hc2_w9 hf2_w9
        have BK := m0; have HB := m3; have HS0 := q0; have HS1 := q1; have HS2 := q2; have HS3 := q3; have HS4 := q4; have HS5 := q5
        clear m0 m3 q0 q1 q2 q3 q4 q5
        have hc0_w10 : w10.cell? ⟨gb, 0, none⟩ = some (.int .i64 n) := (blk_cell BK.out 0).trans rfl
        have hf0_w10 := blk_frozen BK.out 0
        have hc1_w10 : w10.cell? ⟨gb, 1, none⟩ = some (.int .i64 a) := (blk_cell BK.out 1).trans rfl
        have hf1_w10 := blk_frozen BK.out 1
        have hc2_w10 : w10.cell? ⟨gb, 2, none⟩ = some (.int .i64 b) := (blk_cell BK.out 2).trans rfl
        have hf2_w10 := blk_frozen BK.out 2
        obtain ⟨gl, cl, hv, _⟩ := Kd.R_form HO.out (by omega)
        subst hv
        go_wp2_with fail
        have hlenA : ((L.length : Int) != 2 * n / g) = false := by rw [← HLn.out]; simp
        have hlenT : ((L.length : Int) != (2 * n).tdiv g) = false := by rw [Int.tdiv_eq_ediv_of_nonneg (by omega), ← HLn.out]; simp
        have hg1 : (g == 0) = false := beq_eq_false_iff_ne.mpr (by omega)
        have hwr : IntKind.i64.wrap (2 * n) = 2 * n := by rw [IntKind.wrap_i64]; omega
        go_quiet ((first | (go_at_call 50; exact Calls.quiet_of ((sackbutlaw04_gcd.calls kG n (b) g _ HG.out).mono (fun _ _ ⟨he, hd⟩ => ⟨he, hd.out⟩))) | (go_at_call 51; exact Calls.quiet_of ((slices_IsSorted_int_int.calls kS (some ⟨gl, 0, none⟩) cl L true _ (Kd.C_drewN (Kd.R_reads' HO.out).2.2 _) (Kd.R_reads' HO.out).2.1 HSo.out).mono (fun _ _ ⟨he, hd⟩ => ⟨he, hd.out⟩))) | (go_at_call 52; exact Calls.quiet_of ((slices_Contains_int_int.calls kC (some ⟨gl, 0, none⟩) cl L t true _ (Kd.C_drewN (Kd.R_reads' HO.out).2.2 _) (Kd.R_reads' HO.out).2.1 HCo.out).mono (fun _ _ ⟨he, hd⟩ => ⟨he, hd.out⟩)))))
        clear hwr hlenA hlenT hg1
        go_wp2_with fail
        go_roundg (gk - 1)
        case measure => omega
        case rel => exact ⟨3, by omega, rfl, BK, HS0, HS1, HS2, HS3, HS4, HS5, ⟨pw_below_drewN HB.out _⟩⟩
      · have hs := HS3.out
        have hJ : ∀ (x y z : Int) w', Sem.run Tryd.prog (Instr.index 39 (.agg #[.int .i64 x, .int .i64 y, .int .i64 z]) (.int .i64 0)) w' = .ok (.int .i64 x) w' := fun x y z w' => by kernel_rfl
        obtain ⟨L, hL⟩ : ∃ L, L = Slices.sorted ((searchL n a b [76, 80] t).map (·.1)) := ⟨_, rfl⟩
        have HR := Aside0.mk (show triads_Round.f n a b t ⟨#[76, 80]⟩ = some (L, 0) by rw [round_f n a b t _ (by decide) hn ha hb, HK.out, HTr.out, hL]; rfl)
        obtain ⟨g, kG, kS, kC, hG, hg0, hlen, hS, hC, hl32, hl0⟩ := pair_facts HK.out 76 80 t ht0 ht1 (a) (by omega) (by omega) (by first | (left; show (a + b) - b = _; omega) | (right; show (a + b) - b = _; omega)) L hL
        have HG := Aside0.mk hG; have HSo := Aside0.mk hS; have HCo := Aside0.mk hC; have HLn := Aside0.mk hlen
        clear hG hS hC hlen hL
        go_wp2_with fail
        refine (sackbutlaw04_Of.calls n a b _ _ _ _ rfl).mono ?_
        rintro e_ w9 ⟨rfl, hb⟩
        have m0 := Aside0.mk (blk_below BK.out hb); have m3 := Aside0.mk (below_step HB.out hb)
        have q0 := Aside0.mk ((hb.cell (World.block_lt_of_cell? _ _ HS0.out)).trans HS0.out)
        have q1 := Aside0.mk ((hb.cell (World.block_lt_of_cell? _ _ HS1.out)).trans HS1.out)
        have q2 := Aside0.mk ((hb.cell (World.block_lt_of_cell? _ _ HS2.out)).trans HS2.out)
        have q3 := Aside0.mk ((hb.cell (World.block_lt_of_cell? _ _ HS3.out)).trans HS3.out)
        have q4 := Aside0.mk ((hb.cell (World.block_lt_of_cell? _ _ HS4.out)).trans HS4.out)
        have q5 := Aside0.mk ((hb.cell (World.block_lt_of_cell? _ _ HS5.out)).trans HS5.out)
        clear BK HB HS0 HS1 HS2 HS3 HS4 HS5 hb hc0_wr hf0_wr hc1_wr hf1_wr hc2_wr hf2_wr hs
        have BK := m0; have HB := m3; have HS0 := q0; have HS1 := q1; have HS2 := q2; have HS3 := q3; have HS4 := q4; have HS5 := q5
        clear m0 m3 q0 q1 q2 q3 q4 q5
        have hc0_w9 : w9.cell? ⟨gb, 0, none⟩ = some (.int .i64 n) := (blk_cell BK.out 0).trans rfl
        have hf0_w9 := blk_frozen BK.out 0
        have hc1_w9 : w9.cell? ⟨gb, 1, none⟩ = some (.int .i64 a) := (blk_cell BK.out 1).trans rfl
        have hf1_w9 := blk_frozen BK.out 1
        have hc2_w9 : w9.cell? ⟨gb, 2, none⟩ = some (.int .i64 b) := (blk_cell BK.out 2).trans rfl
        have hf2_w9 := blk_frozen BK.out 2
        go_wp2_with fail
        refine (triads_Round.calls n a b t ⟨#[76, 80]⟩ L 0 _ HR.out).mono ?_
        rintro e_ w10 ⟨v10, rfl, ho, hb⟩
        have HO := Aside0.mk ho
        clear ho
        have m0 := Aside0.mk (blk_below BK.out hb); have m3 := Aside0.mk (below_step HB.out hb)
        have q0 := Aside0.mk ((hb.cell (World.block_lt_of_cell? _ _ HS0.out)).trans HS0.out)
        have q1 := Aside0.mk ((hb.cell (World.block_lt_of_cell? _ _ HS1.out)).trans HS1.out)
        have q2 := Aside0.mk ((hb.cell (World.block_lt_of_cell? _ _ HS2.out)).trans HS2.out)
        have q3 := Aside0.mk ((hb.cell (World.block_lt_of_cell? _ _ HS3.out)).trans HS3.out)
        have q4 := Aside0.mk ((hb.cell (World.block_lt_of_cell? _ _ HS4.out)).trans HS4.out)
        have q5 := Aside0.mk ((hb.cell (World.block_lt_of_cell? _ _ HS5.out)).trans HS5.out)
        clear BK HB HS0 HS1 HS2 HS3 HS4 HS5 hb hc0_w9 hf0_w9 hc1_w9 hf1_w9 hc2_w9 hf2_w9
        have BK := m0; have HB := m3; have HS0 := q0; have HS1 := q1; have HS2 := q2; have HS3 := q3; have HS4 := q4; have HS5 := q5
        clear m0 m3 q0 q1 q2 q3 q4 q5
        have hc0_w10 : w10.cell? ⟨gb, 0, none⟩ = some (.int .i64 n) := (blk_cell BK.out 0).trans rfl
        have hf0_w10 := blk_frozen BK.out 0
        have hc1_w10 : w10.cell? ⟨gb, 1, none⟩ = some (.int .i64 a) := (blk_cell BK.out 1).trans rfl
        have hf1_w10 := blk_frozen BK.out 1
        have hc2_w10 : w10.cell? ⟨gb, 2, none⟩ = some (.int .i64 b) := (blk_cell BK.out 2).trans rfl
        have hf2_w10 := blk_frozen BK.out 2
        obtain ⟨gl, cl, hv, _⟩ := Kd.R_form HO.out (by omega)
        subst hv
        go_wp2_with fail
        have hlenA : ((L.length : Int) != 2 * n / g) = false := by rw [← HLn.out]; simp
        have hlenT : ((L.length : Int) != (2 * n).tdiv g) = false := by rw [Int.tdiv_eq_ediv_of_nonneg (by omega), ← HLn.out]; simp
        have hg1 : (g == 0) = false := beq_eq_false_iff_ne.mpr (by omega)
        have hwr : IntKind.i64.wrap (2 * n) = 2 * n := by rw [IntKind.wrap_i64]; omega
        go_quiet ((first | (go_at_call 50; exact Calls.quiet_of ((sackbutlaw04_gcd.calls kG n (a) g _ HG.out).mono (fun _ _ ⟨he, hd⟩ => ⟨he, hd.out⟩))) | (go_at_call 51; exact Calls.quiet_of ((slices_IsSorted_int_int.calls kS (some ⟨gl, 0, none⟩) cl L true _ (Kd.C_drewN (Kd.R_reads' HO.out).2.2 _) (Kd.R_reads' HO.out).2.1 HSo.out).mono (fun _ _ ⟨he, hd⟩ => ⟨he, hd.out⟩))) | (go_at_call 52; exact Calls.quiet_of ((slices_Contains_int_int.calls kC (some ⟨gl, 0, none⟩) cl L t true _ (Kd.C_drewN (Kd.R_reads' HO.out).2.2 _) (Kd.R_reads' HO.out).2.1 HCo.out).mono (fun _ _ ⟨he, hd⟩ => ⟨he, hd.out⟩)))))
        clear hwr hlenA hlenT hg1
        go_wp2_with fail
        go_roundg (gk - 1)
        case measure => omega
        case rel => exact ⟨4, by omega, rfl, BK, HS0, HS1, HS2, HS3, HS4, HS5, ⟨pw_below_drewN HB.out _⟩⟩
      · have hs := HS4.out
        have hJ : ∀ (x y z : Int) w', Sem.run Tryd.prog (Instr.index 39 (.agg #[.int .i64 x, .int .i64 y, .int .i64 z]) (.int .i64 1)) w' = .ok (.int .i64 y) w' := fun x y z w' => by kernel_rfl
        obtain ⟨L, hL⟩ : ∃ L, L = Slices.sorted ((searchL n a b [82, 80] t).map (·.1)) := ⟨_, rfl⟩
        have HR := Aside0.mk (show triads_Round.f n a b t ⟨#[82, 80]⟩ = some (L, 0) by rw [round_f n a b t _ (by decide) hn ha hb, HK.out, HTr.out, hL]; rfl)
        obtain ⟨g, kG, kS, kC, hG, hg0, hlen, hS, hC, hl32, hl0⟩ := pair_facts HK.out 82 80 t ht0 ht1 (b - a) (by omega) (by omega) (by first | (left; show a - b = _; omega) | (right; show a - b = _; omega)) L hL
        have HG := Aside0.mk hG; have HSo := Aside0.mk hS; have HCo := Aside0.mk hC; have HLn := Aside0.mk hlen
        clear hG hS hC hlen hL
        go_wp2_with fail
        refine (sackbutlaw04_Of.calls n a b _ _ _ _ rfl).mono ?_
        rintro e_ w9 ⟨rfl, hb⟩
        have m0 := Aside0.mk (blk_below BK.out hb); have m3 := Aside0.mk (below_step HB.out hb)
        have q0 := Aside0.mk ((hb.cell (World.block_lt_of_cell? _ _ HS0.out)).trans HS0.out)
        have q1 := Aside0.mk ((hb.cell (World.block_lt_of_cell? _ _ HS1.out)).trans HS1.out)
        have q2 := Aside0.mk ((hb.cell (World.block_lt_of_cell? _ _ HS2.out)).trans HS2.out)
        have q3 := Aside0.mk ((hb.cell (World.block_lt_of_cell? _ _ HS3.out)).trans HS3.out)
        have q4 := Aside0.mk ((hb.cell (World.block_lt_of_cell? _ _ HS4.out)).trans HS4.out)
        have q5 := Aside0.mk ((hb.cell (World.block_lt_of_cell? _ _ HS5.out)).trans HS5.out)
        clear BK HB HS0 HS1 HS2 HS3 HS4 HS5 hb hc0_wr hf0_wr hc1_wr hf1_wr hc2_wr hf2_wr hs
        have BK := m0; have HB := m3; have HS0 := q0; have HS1 := q1; have HS2 := q2; have HS3 := q3; have HS4 := q4; have HS5 := q5
        clear m0 m3 q0 q1 q2 q3 q4 q5
        have hc0_w9 : w9.cell? ⟨gb, 0, none⟩ = some (.int .i64 n) := (blk_cell BK.out 0).trans rfl
        have hf0_w9 := blk_frozen BK.out 0
        have hc1_w9 : w9.cell? ⟨gb, 1, none⟩ = some (.int .i64 a) := (blk_cell BK.out 1).trans rfl
        have hf1_w9 := blk_frozen BK.out 1
        have hc2_w9 : w9.cell? ⟨gb, 2, none⟩ = some (.int .i64 b) := (blk_cell BK.out 2).trans rfl
        have hf2_w9 := blk_frozen BK.out 2
        go_wp2_with fail
        refine (triads_Round.calls n a b t ⟨#[82, 80]⟩ L 0 _ HR.out).mono ?_
        rintro e_ w10 ⟨v10, rfl, ho, hb⟩
        have HO := Aside0.mk ho
        clear ho
        have m0 := Aside0.mk (blk_below BK.out hb); have m3 := Aside0.mk (below_step HB.out hb)
        have q0 := Aside0.mk ((hb.cell (World.block_lt_of_cell? _ _ HS0.out)).trans HS0.out)
        have q1 := Aside0.mk ((hb.cell (World.block_lt_of_cell? _ _ HS1.out)).trans HS1.out)
        have q2 := Aside0.mk ((hb.cell (World.block_lt_of_cell? _ _ HS2.out)).trans HS2.out)
        have q3 := Aside0.mk ((hb.cell (World.block_lt_of_cell? _ _ HS3.out)).trans HS3.out)
        have q4 := Aside0.mk ((hb.cell (World.block_lt_of_cell? _ _ HS4.out)).trans HS4.out)
        have q5 := Aside0.mk ((hb.cell (World.block_lt_of_cell? _ _ HS5.out)).trans HS5.out)
        clear BK HB HS0 HS1 HS2 HS3 HS4 HS5 hb hc0_w9 hf0_w9 hc1_w9 hf1_w9 hc2_w9 hf2_w9
        have BK := m0; have HB := m3; have HS0 := q0; have HS1 := q1; have HS2 := q2; have HS3 := q3; have HS4 := q4; have HS5 := q5
        clear m0 m3 q0 q1 q2 q3 q4 q5
        have hc0_w10 : w10.cell? ⟨gb, 0, none⟩ = some (.int .i64 n) := (blk_cell BK.out 0).trans rfl
        have hf0_w10 := blk_frozen BK.out 0
        have hc1_w10 : w10.cell? ⟨gb, 1, none⟩ = some (.int .i64 a) := (blk_cell BK.out 1).trans rfl
        have hf1_w10 := blk_frozen BK.out 1
        have hc2_w10 : w10.cell? ⟨gb, 2, none⟩ = some (.int .i64 b) := (blk_cell BK.out 2).trans rfl
        have hf2_w10 := blk_frozen BK.out 2
        obtain ⟨gl, cl, hv, _⟩ := Kd.R_form HO.out (by omega)
        subst hv
        go_wp2_with fail
        have hlenA : ((L.length : Int) != 2 * n / g) = false := by rw [← HLn.out]; simp
        have hlenT : ((L.length : Int) != (2 * n).tdiv g) = false := by rw [Int.tdiv_eq_ediv_of_nonneg (by omega), ← HLn.out]; simp
        have hg1 : (g == 0) = false := beq_eq_false_iff_ne.mpr (by omega)
        have hwr : IntKind.i64.wrap (2 * n) = 2 * n := by rw [IntKind.wrap_i64]; omega
        go_quiet ((first | (go_at_call 50; exact Calls.quiet_of ((sackbutlaw04_gcd.calls kG n (b - a) g _ HG.out).mono (fun _ _ ⟨he, hd⟩ => ⟨he, hd.out⟩))) | (go_at_call 51; exact Calls.quiet_of ((slices_IsSorted_int_int.calls kS (some ⟨gl, 0, none⟩) cl L true _ (Kd.C_drewN (Kd.R_reads' HO.out).2.2 _) (Kd.R_reads' HO.out).2.1 HSo.out).mono (fun _ _ ⟨he, hd⟩ => ⟨he, hd.out⟩))) | (go_at_call 52; exact Calls.quiet_of ((slices_Contains_int_int.calls kC (some ⟨gl, 0, none⟩) cl L t true _ (Kd.C_drewN (Kd.R_reads' HO.out).2.2 _) (Kd.R_reads' HO.out).2.1 HCo.out).mono (fun _ _ ⟨he, hd⟩ => ⟨he, hd.out⟩)))))
        clear hwr hlenA hlenT hg1
        go_wp2_with fail
        go_roundg (gk - 1)
        case measure => omega
        case rel => exact ⟨5, by omega, rfl, BK, HS0, HS1, HS2, HS3, HS4, HS5, ⟨pw_below_drewN HB.out _⟩⟩
      · have hs := HS5.out
        have hJ : ∀ (x y z : Int) w', Sem.run Tryd.prog (Instr.index 39 (.agg #[.int .i64 x, .int .i64 y, .int .i64 z]) (.int .i64 2)) w' = .ok (.int .i64 z) w' := fun x y z w' => by kernel_rfl
        obtain ⟨L, hL⟩ : ∃ L, L = Slices.sorted ((searchL n a b [82, 76] t).map (·.1)) := ⟨_, rfl⟩
        have HR := Aside0.mk (show triads_Round.f n a b t ⟨#[82, 76]⟩ = some (L, 0) by rw [round_f n a b t _ (by decide) hn ha hb, HK.out, HTr.out, hL]; rfl)
        obtain ⟨g, kG, kS, kC, hG, hg0, hlen, hS, hC, hl32, hl0⟩ := pair_facts HK.out 82 76 t ht0 ht1 (b) (by omega) (by omega) (by first | (left; show a - (a + b) = _; omega) | (right; show a - (a + b) = _; omega)) L hL
        have HG := Aside0.mk hG; have HSo := Aside0.mk hS; have HCo := Aside0.mk hC; have HLn := Aside0.mk hlen
        clear hG hS hC hlen hL
        go_wp2_with fail
        refine (sackbutlaw04_Of.calls n a b _ _ _ _ rfl).mono ?_
        rintro e_ w9 ⟨rfl, hb⟩
        have m0 := Aside0.mk (blk_below BK.out hb); have m3 := Aside0.mk (below_step HB.out hb)
        have q0 := Aside0.mk ((hb.cell (World.block_lt_of_cell? _ _ HS0.out)).trans HS0.out)
        have q1 := Aside0.mk ((hb.cell (World.block_lt_of_cell? _ _ HS1.out)).trans HS1.out)
        have q2 := Aside0.mk ((hb.cell (World.block_lt_of_cell? _ _ HS2.out)).trans HS2.out)
        have q3 := Aside0.mk ((hb.cell (World.block_lt_of_cell? _ _ HS3.out)).trans HS3.out)
        have q4 := Aside0.mk ((hb.cell (World.block_lt_of_cell? _ _ HS4.out)).trans HS4.out)
        have q5 := Aside0.mk ((hb.cell (World.block_lt_of_cell? _ _ HS5.out)).trans HS5.out)
        clear BK HB HS0 HS1 HS2 HS3 HS4 HS5 hb hc0_wr hf0_wr hc1_wr hf1_wr hc2_wr hf2_wr hs
        have BK := m0; have HB := m3; have HS0 := q0; have HS1 := q1; have HS2 := q2; have HS3 := q3; have HS4 := q4; have HS5 := q5
        clear m0 m3 q0 q1 q2 q3 q4 q5
        have hc0_w9 : w9.cell? ⟨gb, 0, none⟩ = some (.int .i64 n) := (blk_cell BK.out 0).trans rfl
        have hf0_w9 := blk_frozen BK.out 0
        have hc1_w9 : w9.cell? ⟨gb, 1, none⟩ = some (.int .i64 a) := (blk_cell BK.out 1).trans rfl
        have hf1_w9 := blk_frozen BK.out 1
        have hc2_w9 : w9.cell? ⟨gb, 2, none⟩ = some (.int .i64 b) := (blk_cell BK.out 2).trans rfl
        have hf2_w9 := blk_frozen BK.out 2
        go_wp2_with fail
        refine (triads_Round.calls n a b t ⟨#[82, 76]⟩ L 0 _ HR.out).mono ?_
        rintro e_ w10 ⟨v10, rfl, ho, hb⟩
        have HO := Aside0.mk ho
        clear ho
        have m0 := Aside0.mk (blk_below BK.out hb); have m3 := Aside0.mk (below_step HB.out hb)
        have q0 := Aside0.mk ((hb.cell (World.block_lt_of_cell? _ _ HS0.out)).trans HS0.out)
        have q1 := Aside0.mk ((hb.cell (World.block_lt_of_cell? _ _ HS1.out)).trans HS1.out)
        have q2 := Aside0.mk ((hb.cell (World.block_lt_of_cell? _ _ HS2.out)).trans HS2.out)
        have q3 := Aside0.mk ((hb.cell (World.block_lt_of_cell? _ _ HS3.out)).trans HS3.out)
        have q4 := Aside0.mk ((hb.cell (World.block_lt_of_cell? _ _ HS4.out)).trans HS4.out)
        have q5 := Aside0.mk ((hb.cell (World.block_lt_of_cell? _ _ HS5.out)).trans HS5.out)
        clear BK HB HS0 HS1 HS2 HS3 HS4 HS5 hb hc0_w9 hf0_w9 hc1_w9 hf1_w9 hc2_w9 hf2_w9
        have BK := m0; have HB := m3; have HS0 := q0; have HS1 := q1; have HS2 := q2; have HS3 := q3; have HS4 := q4; have HS5 := q5
        clear m0 m3 q0 q1 q2 q3 q4 q5
        have hc0_w10 : w10.cell? ⟨gb, 0, none⟩ = some (.int .i64 n) := (blk_cell BK.out 0).trans rfl
        have hf0_w10 := blk_frozen BK.out 0
        have hc1_w10 : w10.cell? ⟨gb, 1, none⟩ = some (.int .i64 a) := (blk_cell BK.out 1).trans rfl
        have hf1_w10 := blk_frozen BK.out 1
        have hc2_w10 : w10.cell? ⟨gb, 2, none⟩ = some (.int .i64 b) := (blk_cell BK.out 2).trans rfl
        have hf2_w10 := blk_frozen BK.out 2
        obtain ⟨gl, cl, hv, _⟩ := Kd.R_form HO.out (by omega)
        subst hv
        go_wp2_with fail
        have hlenA : ((L.length : Int) != 2 * n / g) = false := by rw [← HLn.out]; simp
        have hlenT : ((L.length : Int) != (2 * n).tdiv g) = false := by rw [Int.tdiv_eq_ediv_of_nonneg (by omega), ← HLn.out]; simp
        have hg1 : (g == 0) = false := beq_eq_false_iff_ne.mpr (by omega)
        have hwr : IntKind.i64.wrap (2 * n) = 2 * n := by rw [IntKind.wrap_i64]; omega
        go_quiet ((first | (go_at_call 50; exact Calls.quiet_of ((sackbutlaw04_gcd.calls kG n (b) g _ HG.out).mono (fun _ _ ⟨he, hd⟩ => ⟨he, hd.out⟩))) | (go_at_call 51; exact Calls.quiet_of ((slices_IsSorted_int_int.calls kS (some ⟨gl, 0, none⟩) cl L true _ (Kd.C_drewN (Kd.R_reads' HO.out).2.2 _) (Kd.R_reads' HO.out).2.1 HSo.out).mono (fun _ _ ⟨he, hd⟩ => ⟨he, hd.out⟩))) | (go_at_call 52; exact Calls.quiet_of ((slices_Contains_int_int.calls kC (some ⟨gl, 0, none⟩) cl L t true _ (Kd.C_drewN (Kd.R_reads' HO.out).2.2 _) (Kd.R_reads' HO.out).2.1 HCo.out).mono (fun _ _ ⟨he, hd⟩ => ⟨he, hd.out⟩)))))
        clear hwr hlenA hlenT hg1
        go_wp2_with fail
        go_roundg (gk - 1)
        case measure => omega
        case rel => exact ⟨6, by omega, rfl, BK, HS0, HS1, HS2, HS3, HS4, HS5, ⟨pw_below_drewN HB.out _⟩⟩
      · go_wp2_with (first | (go_at_call 20; refine (sackbutlaw04_awake.calls true _ Base.awake_f).mono ?_; rintro e_ w15 ⟨rfl, hb⟩; have n0_ := Aside0.mk (blk_below (g := gb) (o := .cells #[.int .i64 n, .int .i64 a, .int .i64 b] 23 (0, 0)) (by (with_reducible repeat (first | refine blk_drewN ?_ _ | refine blk_drew ?_ | refine blk_alloc ?_ _)); exact BK.out) hb); have n1_ := Aside0.mk (below_step (by repeat (first | (with_reducible first | exact HB.out | apply below_alloc | apply pw_below_drewN | apply below_drew1 | refine below_set ?_ GE.out) | exact HB.out)) hb); clear BK HB; have BK := n0_; have HB := n1_; clear n0_ n1_ hb; have hc0_w15 : w15.cell? ⟨gb, 0, none⟩ = some (.int .i64 n) := (blk_cell BK.out 0).trans rfl; have hf0_w15 := blk_frozen BK.out 0; have hc1_w15 : w15.cell? ⟨gb, 1, none⟩ = some (.int .i64 a) := (blk_cell BK.out 1).trans rfl; have hf1_w15 := blk_frozen BK.out 1; have hc2_w15 : w15.cell? ⟨gb, 2, none⟩ = some (.int .i64 b) := (blk_cell BK.out 2).trans rfl; have hf2_w15 := blk_frozen BK.out 2; ))
        go_ret
        exact ⟨rfl, HB.out⟩
end
end Go.Proofs.YtpaeobpmkdekfaaDoor.P
end
