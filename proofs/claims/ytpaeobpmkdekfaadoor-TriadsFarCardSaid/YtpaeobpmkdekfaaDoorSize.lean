/- Size of the program: the walk through its code. -/
import Derived.Test.YtpaeobpmkdekfaaDoorP1
import Derived.Test.YtpaeobpmkdekfaaDoorSearch
namespace Go.Proofs.YtpaeobpmkdekfaaDoor.P
open Go.RowKit Go.Proofs.YtpaeobpmkdekfaaDoorW.PrintWords Go.Proofs.YtpaeobpmkdekfaaDoorW.PrintLast Go.Proofs.YtpaeobpmkdekfaaDoorW.PrintMore
set_option linter.unusedVariables false
set_option linter.unusedSimpArgs false
section
open Go.Proofs.YtpaeobpmkdekfaaDoor.MapLaws Go.Proofs.YtpaeobpmkdekfaaDoor.Base
def triads_Size.f (a0_0 a0_1 a0_2 : Int) : Option (Int × Int) := (triads_Kind_valid.f a0_0 a0_1 a0_2).bind fun v => if v = true then (if isKind a0_0 a0_1 a0_2 = true then some (((searchL a0_0 a0_1 a0_2 [76, 80, 82] 0).length : Int), 0) else none) else some (0, 2)
set_option maxHeartbeats 4000000 in
set_option maxRecDepth 100000 in
theorem triads_Size.calls (a0_0 : Int) (a0_1 : Int) (a0_2 : Int) (r1 : Int) (r2 : Int) (w : World) (h : triads_Size.f a0_0 a0_1 a0_2 = some (r1, r2)) :
    Calls Tryd.prog 35 #[.agg #[.int .i64 a0_0, .int .i64 a0_1, .int .i64 a0_2]] w fun e w' => e = .returned (.tuple #[.int .i64 r1, .int .i64 r2]) ∧ Below w.heap.size w w' := by
  obtain ⟨v, hv, h2⟩ := Option.bind_eq_some_iff.1 h
  have HV := Aside0.mk hv
  have H2 := Aside0.mk h2
  clear h h2 hv
  have HB0 := Aside0.mk (show Below w.heap.size w (w.alloc (.cells #[.int .i64 a0_0, .int .i64 a0_1, .int .i64 a0_2] 27)) from (Below.refl _ w).alloc (Nat.le_refl _) _)
  have HX0 := Aside0.mk (show (w.alloc (.cells #[.int .i64 a0_0, .int .i64 a0_1, .int .i64 a0_2] 27)).heap[w.heap.size]? = some (.cells #[.int .i64 a0_0, .int .i64 a0_1, .int .i64 a0_2] 27 (0, 0)) from World.alloc_heap_new w _)
  go_enter Tryd.func35, Tryd.ntmps35
  go_wp2_with fail
  refine (triads_Kind_valid.calls a0_0 a0_1 a0_2 v _ HV.out).mono ?_
  rintro e W1 ⟨rfl, hb⟩
  have HB1 := Aside0.mk (HB0.out.trans (hb.mono HB0.out.size))
  have HX1 := Aside0.mk ((hb.block _ (blk_lt HX0.out)).trans HX0.out)
  clear hb
  have q0 : W1.cell? ⟨w.heap.size, 0, none⟩ = some (.int .i64 a0_0) := (blk_cell HX1.out 0).trans rfl
  have q1 : W1.cell? ⟨w.heap.size, 1, none⟩ = some (.int .i64 a0_1) := (blk_cell HX1.out 1).trans rfl
  have q2 : W1.cell? ⟨w.heap.size, 2, none⟩ = some (.int .i64 a0_2) := (blk_cell HX1.out 2).trans rfl
  cases v with
  | false =>
    have h3 := H2.out
    rw [if_neg (by decide)] at h3
    obtain ⟨rfl, rfl⟩ : (0 : Int) = r1 ∧ (2 : Int) = r2 := by simpa using h3
    clear h3
    go_wp2_with fail
    go_ret2
    exact ⟨rfl, HB1.out⟩
  | true =>
    have h3 := H2.out
    rw [if_pos rfl] at h3
    by_cases hk : isKind a0_0 a0_1 a0_2 = true
    case neg => rw [if_neg hk] at h3; cases h3
    rw [if_pos hk] at h3
    have hn : 5 ≤ a0_0 := (of_decide_eq_true hk).1
    have HR := Aside0.mk (Option.some.inj h3)
    have HK := Aside0.mk hk
    have HG := Aside0.mk (searchL_good hk [76, 80, 82] 0 (by omega) (by omega))
    clear h3 hk
    go_wp2_with fail
    refine (search_calls HK.out 0 (by omega) (by omega) ⟨#[76, 80, 82]⟩ (by decide) (by decide) W1).mono ?_
    rintro e W2 ⟨B, rfl, hB, hown, hb⟩
    have HB2 := Aside0.mk (HB1.out.trans (hb.mono HB1.out.size))
    have HO := Aside0.mk hown
    clear hb hown
    go_wp2_with (at_len; refine wpList_len_own _ rfl _ 85 rfl 3 9 Tryd.underlying85 _ B _ _ rfl HO.out ?_)
    go_ret2
    have h4 := HR.out
    rw [mapD_size _ HG.out.nodup]
    obtain ⟨rfl, rfl⟩ : ((searchL a0_0 a0_1 a0_2 [76, 80, 82] 0).length : Int) = r1 ∧ (0 : Int) = r2 := by simpa using h4
    exact ⟨rfl, HB2.out⟩
end
end Go.Proofs.YtpaeobpmkdekfaaDoor.P
