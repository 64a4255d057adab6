/- Texts that the proof of TopTriads needs, put together in build order by this session's program (wip/tools/claimtrim.py). -/
import Derived.Test.YtolnpamjkhbgeaaDoorTopTriadsM8
import Derived.Test.YtolnpamjkhbgeaaDoorTopTriadsM6
import Derived.Test.YtolnpamjkhbgeaaDoorTopTriadsM5
import Derived.Test.YtolnpamjkhbgeaaDoorTopTriadsM10
import Derived.Test.YtolnpamjkhbgeaaDoorTopTriadsM11
import Derived.RangeFuncNested
import Derived.RangeFuncBound
import Derived.RangeFuncCalls
import Derived.RangeFuncLeaves
import Derived.RangeFuncBox
import Derived.Shelf.Abstract
import Derived.Shelf.AbstractIn
import Derived.Shelf.RegionOpen
import Derived.WalkKit
import Derived.OwnWalkIn
import Derived.TacticsInMore
import Derived.LoopNIn
import Derived.LoopIn
import Derived.Sort.QuietIn
import Derived.Sort.BigQuietIn
section
namespace Go.Proofs.YtolnpamjkhbgeaaDoor.P
open Go.RowKit Go.Proofs.YtolnpamjkhbgeaaDoorW.PrintWords Go.Proofs.YtolnpamjkhbgeaaDoorW.PrintLast Go.Proofs.YtolnpamjkhbgeaaDoorW.PrintMore
section
open Go.Shelf Bits
attribute [local go_sem] Oper.semAt_some
theorem or_i64 (x y : Nat) (hx : x < 2 ^ 16) (hy : y < 2 ^ 16) : bits .or .i64 (x : Int) (y : Int) = ((x ||| y : Nat) : Int) :=
  (bits_nat .i64 63 (by decide) (fun n h0 h1 => by rw [IntKind.wrap_i64]; omega) x y (Nat.lt_of_lt_of_le hx (Nat.pow_le_pow_right (by decide) (by decide))) (Nat.lt_of_lt_of_le hy (Nat.pow_le_pow_right (by decide) (by decide)))).2
set_option maxHeartbeats 300000 in
set_option maxRecDepth 100000 in
theorem mapped_calls (n s : Nat) (hn : 2 ≤ n) (hn16 : n ≤ 16) (hs : s < 2 ^ n) (w : World) (hT : TabIn w) :
    Calls Tryd.prog 33 #[.int .i64 n, .int .i64 s, .func (.func 34) #[] #[]] w fun e w' => e = .returned (.int .i64 (turnL n (tonesL s))) ∧ Below w.heap.size w w' := by
  have hs16 : s < 65536 := Nat.lt_of_lt_of_le hs (Nat.pow_le_pow_right (by decide) hn16 : 2 ^ n ≤ 2 ^ 16)
  refine (callsIn_wide (n := 3)).1 ?_
  refine callsIn_of_wp_marks Tryd.func33 rfl trivial ?_ rfl
  simp only [Tryd.ntmps33, List.size_toArray, List.length_cons, List.length_nil, Nat.reduceAdd, Nat.reduceSub, Array.replicate_succ, Array.replicate_zero, List.push_toArray, List.append_toArray, List.nil_append, List.cons_append]
  gi_wp2_with fail
  refine ⟨trivial, ?_⟩
  refine (callsIn_wide.2 (tones_calls s _)).mono ?_
  rintro e w' ⟨rfl, rfl⟩
  gi_wp2_with fail
  obtain ⟨W0, hW0⟩ : ∃ W0 : World, ((((w.alloc (.cells #[.int .i64 (n : Int)] 44)).alloc (.cells #[.func (.func 34) #[] #[]] 42)).alloc (.cells #[.int .i64 0] 3)).alloc (.cells #[.int .i64 (s : Int)] 3)) = W0 := ⟨_, rfl⟩
  have hsz : W0.heap.size = w.heap.size + 4 := by rw [← hW0]; simp
  have hbel0 : Below w.heap.size w W0 := by
    rw [← hW0]
    exact ((((Below.refl _ w).alloc (Nat.le_refl _) _).alloc (by simp) _).alloc (by simp; omega) _).alloc (by simp; omega) _
  have hA0 : W0.heap[w.heap.size]? = some (.cells #[.int .i64 (n : Int)] 44 (0, 0)) := by
    rw [← hW0]
    exact blk_alloc (blk_alloc (blk_alloc (World.alloc_heap_new w _) _) _) _
  have hA1 : W0.heap[w.heap.size + 1]? = some (.cells #[.func (.func 34) #[] #[]] 42 (0, 0)) := by
    rw [← hW0]
    have := World.alloc_heap_new (w.alloc (.cells #[.int .i64 (n : Int)] 44)) (.cells #[.func (.func 34) #[] #[]] 42)
    rw [World.size_alloc] at this
    exact blk_alloc (blk_alloc this _) _
  have hA2 : W0.heap[w.heap.size + 2]? = some (.cells #[.int .i64 0] 3 (0, 0)) := by
    rw [← hW0]
    have := World.alloc_heap_new ((w.alloc (.cells #[.int .i64 (n : Int)] 44)).alloc (.cells #[.func (.func 34) #[] #[]] 42)) (.cells #[.int .i64 0] 3)
    rw [World.size_alloc, World.size_alloc] at this
    exact blk_alloc this _
  have hA3 : W0.heap[w.heap.size + 3]? = some (.cells #[.int .i64 (s : Int)] 3 (0, 0)) := by
    rw [← hW0]
    have := World.alloc_heap_new (((w.alloc (.cells #[.int .i64 (n : Int)] 44)).alloc (.cells #[.func (.func 34) #[] #[]] 42)).alloc (.cells #[.int .i64 0] 3)) (.cells #[.int .i64 (s : Int)] 3)
    rw [World.size_alloc, World.size_alloc, World.size_alloc] at this
    exact this
  rw [hW0]
  clear hW0
  refine Range.wp_range3 (gf := 60) (fst := #[]) (lb := #[.pointer (some ⟨w.heap.size + 3, 0, none⟩)]) rfl (enters_of Tryd.func60 (by kernel_rfl) rfl)
    (tones_iter 1 s hs16 (w.heap.size + 3) W0 (tabIn_below hT hbel0) hA3) (Below.refl _ _) ?hKt ?hKn (fun _ => rfl)
    (fun pre W => W.heap[w.heap.size]? = some (.cells #[.int .i64 (n : Int)] 44 (0, 0)) ∧ W.heap[w.heap.size + 1]? = some (.cells #[.func (.func 34) #[] #[]] 42 (0, 0)) ∧ W.heap[w.heap.size + 2]? = some (.cells #[.int .i64 (turnL n pre : Int)] 3 (0, 0)) ∧ Below w.heap.size w W)
    (fun c pre W => False)
    (fun s A B h k => ⟨Range.block_below h.1 k, Range.block_below h.2.1 k, Range.block_below h.2.2.1 k, h.2.2.2.trans (k.mono h.2.2.2.size)⟩)
    (fun s A B h k => ⟨Range.block_noted h.1 (by omega) k, Range.block_noted h.2.1 (by omega) k, Range.block_noted h.2.2.1 (by omega) k, Range.below_noted h.2.2.2 (by omega) (Nat.le_refl _) k⟩)
    (fun c s A B h k => h.elim) (fun c s A B h k => h.elim) ?hWk ?hIw (fun c s A B h k => h.elim)
    ⟨hA0, hA1, hA2, hbel0⟩ (fun x => { tmps := #[.int .i64 n, .int .i64 s, .func (.func 34) #[] #[], .pointer (some ⟨w.heap.size, 0, none⟩), undef, .pointer (some ⟨w.heap.size + 1, 0, none⟩), .int .i64 0, .pointer (some ⟨w.heap.size + 1 + 1, 0, none⟩), .int .i64 x, .int .i64 s, .func (.func 60) #[] #[.pointer (some ⟨w.heap.size + 1 + 1 + 1, 0, none⟩)], .int .i64 x, undef, undef, undef, undef, undef, undef, undef, undef, undef, undef, undef, undef, undef], defers := [] }) ?assign ?body ?done ?stop
  case hKt =>
    intro A B C h k
    exact ⟨Nat.le_trans h.1 k.1, k.2.1.trans h.2.1, fun t => k.2.2 (h.2.2 t)⟩
  case hKn =>
    intro A B h
    have hk := Range.KeepsCells.of_noted h
    obtain ⟨l, o, o', hl, ho, hc, rfl⟩ := h
    exact ⟨hk.1, World.putObj_heap_other (by omega), fun t j hj => hk.cell (t j hj)⟩
  case hWk =>
    rintro A B i ⟨u, v, hu, rfl⟩ hi
    exact Below.heap_setCell A _ _ _ (by show i ≠ w.heap.size + 3; omega)
  case hIw =>
    rintro pre A B ⟨h1, h2, h3, h4⟩ ⟨u, v, hu, rfl⟩
    exact ⟨(Below.heap_setCell A _ _ _ (by show w.heap.size ≠ w.heap.size + 3; omega)).trans h1, (Below.heap_setCell A _ _ _ (by show w.heap.size + 1 ≠ w.heap.size + 3; omega)).trans h2, (Below.heap_setCell A _ _ _ (by show w.heap.size + 2 ≠ w.heap.size + 3; omega)).trans h3, below_set h4 (by show w.heap.size ≤ w.heap.size + 3; omega)⟩
  case assign =>
    intro l x W K hK
    gi_wp2
    exact hK
  case body =>
    rintro l pre x W W' hi ⟨r, hx⟩ hno ⟨h1, h2, h3, h4⟩
    have hcz0 : W'.cell? ⟨w.heap.size, 0, none⟩ = some (.int .i64 n) := (blk_cell h1 0).trans rfl
    have hcz1 : W'.cell? ⟨w.heap.size + 1, 0, none⟩ = some (.func (.func 34) #[] #[]) := (blk_cell h2 0).trans rfl
    have hcz2 : W'.cell? ⟨w.heap.size + 1 + 1, 0, none⟩ = some (.int .i64 (turnL n pre)) := (blk_cell h3 0).trans rfl
    have hfr2 : W'.frozen? ⟨w.heap.size + 1 + 1, 0, none⟩ = false := by simp [World.frozen?, h3]
    have H1 := Aside0.mk h1
    have H2 := Aside0.mk h2
    have H3 := Aside0.mk h3
    have H4 := Aside0.mk h4
    have hx16 : x < n := tonesL_lt n s hn16 hs x (by rw [hx]; simp)
    have hacc : turnL n pre < 2 ^ 16 := Nat.lt_of_lt_of_le (turnL_lt n (by omega) pre) (Nat.pow_le_pow_right (by decide) hn16)
    have HX := Aside0.mk hx
    clear h1 h2 h3 h4 hx hi hno hbel0 hA0 hA1 hA2 hA3 hT hs hs16
    have hxw : wrap64 (-(x : Int)) = -(x : Int) := by unfold wrap64; omega
    have e0 : (x : Int).tmod (n : Int) = (x : Int) := Int.tmod_eq_of_lt (by omega) (by omega)
    obtain ⟨y, hy⟩ : ∃ y : Nat, y = n - x := ⟨_, rfl⟩
    have e4 : IntKind.i64.wrap (-(x : Int) + (n : Int)) = (y : Int) := by rw [IntKind.wrap_i64, hy]; omega
    obtain ⟨c, hc⟩ : ∃ c : Nat, c = (n - x) % n := ⟨_, rfl⟩
    have hcn : c < n := by rw [hc]; exact Nat.mod_lt _ (by omega)
    have e5 : (y : Int).tmod (n : Int) = (c : Int) := by rw [Int.tmod_eq_emod_of_nonneg (by omega), hc, hy]; omega
    obtain ⟨p, hp⟩ : ∃ p : Nat, p = 2 ^ c := ⟨_, rfl⟩
    have hp16 : p < 2 ^ 16 := by rw [hp]; exact Nat.pow_lt_pow_right (by decide) (by omega)
    have e2 : IntKind.i64.wrap (2 ^ c) = (p : Int) := by
      rw [show (2 : Int) ^ c = ((2 ^ c : Nat) : Int) by simp, ← hp, IntKind.wrap_i64]
      omega
    obtain ⟨t, ht⟩ : ∃ t : Nat, t = turnL n pre := ⟨_, rfl⟩
    rw [← ht] at hacc hcz2 H3
    obtain ⟨q, hq⟩ : ∃ q : Nat, q = t ||| p := ⟨_, rfl⟩
    have e3 : bits .or .i64 (t : Int) (p : Int) = (q : Int) := by
      rw [hq]
      exact or_i64 t p hacc hp16
    have HQ := Aside0.mk (show q = turnL n (pre ++ [x]) by rw [hq, ht, hp, hc]; unfold turnL; rw [List.foldl_append]; rfl)
    have hn0 : ¬ n = 0 := by omega
    clear hacc hc hp ht hq hp16 hx16 hy
    gi_wp2_with fail
    refine Still.region_tail 12 rfl (by rintro ⟨a_, w_, h_⟩; exact h_) (by kernel_rfl) (by kernel_rfl) ?_
    simp only [List.take_succ_cons, List.take_zero, List.drop_succ_cons, List.drop_zero]
    repeat still_step
    still_call (turn1_calls x _)
    repeat still_step
    refine wpStill_nil ?_
    go_wp2
    have hcb : (W'.heap[w.heap.size + 2]?) = some (Obj.cells #[Value.int IntKind.i64 ↑t] 3 (0, 0)) := H3.out
    have hput := blk_put (cs := #[.int .i64 (t : Int)]) hcb 0 (.int .i64 (q : Int)) rfl
    have hoth : ∀ i, i ≠ w.heap.size + 2 → (W'.setCell ⟨w.heap.size + 1 + 1, 0, none⟩ (.int .i64 (q : Int))).heap[i]? = W'.heap[i]? := fun i hi => Below.heap_setCell W' _ _ _ (by show i ≠ w.heap.size + 1 + 1; omega)
    have hbs := below_set H4.out (g := w.heap.size + 1 + 1) (j := 0) (v := .int .i64 (q : Int)) (by show w.heap.size ≤ w.heap.size + 1 + 1; omega)
    have hzs : (W'.setCell ⟨w.heap.size + 1 + 1, 0, none⟩ (.int .i64 (q : Int))).heap.size = W'.heap.size := by simp
    refine ⟨⟨?_, ?_⟩, ⟨?_, ?_, ?_⟩, ?_, ?_, ?_, ?_⟩
    · exact Nat.le_of_eq hzs.symm
    · intro i o ho hc0
      by_cases hi : i = w.heap.size + 2
      · subst hi
        rw [hcb] at ho
        obtain rfl := Option.some.inj ho
        exact absurd hc0 (by simp [Obj.isCells])
      · exact (hoth i hi).trans ho
    · exact Nat.le_of_eq hzs.symm
    · exact hoth _ (by omega)
    · intro hT2
      exact fun j hj => (tabIn_set (b := w.heap.size + 2) hT2 hcb (.int .i64 (q : Int))) j hj
    · exact (hoth _ (by omega)).trans H1.out
    · exact (hoth _ (by omega)).trans H2.out
    · rw [← HQ.out]; exact hput
    · exact below_drew hbs
  case done =>
    rintro D xs W hD hS ⟨h1, h2, h3, h4⟩ hK
    subst hS
    have hcz2 : W.cell? ⟨w.heap.size + 1 + 1, 0, none⟩ = some (.int .i64 (turnL n (tonesL s))) := (blk_cell h3 0).trans rfl
    have H4 := Aside0.mk h4
    have HK := Aside0.mk hK
    clear h1 h2 h3 h4 hT hbel0 hA0 hA1 hA2 hA3
    gi_wp2_with fail
    refine ⟨by simp, .inl ⟨_, _, rfl, run_takeDeferred HK.out, ?_⟩⟩
    refine ⟨.int .i64 (turnL n (tonesL s)), by simp [results, Tryd.results33, go_sem], rfl, ?_⟩
    exact H4.out.grown (grownBy_putObj' _ D _) H4.out.size (fun k e => by cases e; omega)
  case stop =>
    rintro D c pre W hD hS h hK
    exact h.elim
def chords_circle_turn.f (a0 a1 : Int) : Option Int := if 2 ≤ a0 ∧ a0 ≤ 16 ∧ 0 ≤ a1 ∧ a1 < 2 ^ a0.toNat then some (turnL a0.toNat (tonesL a1.toNat) : Int) else none
set_option maxHeartbeats 400000 in
set_option maxRecDepth 100000 in
theorem chords_circle_turn.calls (a0 a1 : Int) (r : Int) (w : World) (hT : TabIn w) (h : chords_circle_turn.f a0 a1 = some r) : Calls Tryd.prog 24 #[.int .i64 a0, .int .i64 a1] w fun e w' => e = .returned (.int .i64 r) ∧ Below w.heap.size w w' := by
  unfold chords_circle_turn.f at h
  by_cases c : 2 ≤ a0 ∧ a0 ≤ 16 ∧ 0 ≤ a1 ∧ a1 < 2 ^ a0.toNat
  · rw [if_pos c] at h
    obtain rfl := Option.some.inj h
    obtain ⟨c1, c2, c3, c4⟩ := c
    obtain ⟨n, rfl⟩ : ∃ n : Nat, a0 = n := ⟨a0.toNat, by omega⟩
    obtain ⟨s, rfl⟩ : ∃ s : Nat, a1 = s := ⟨a1.toNat, by omega⟩
    simp only [Int.toNat_natCast] at c4 ⊢
    have hs : s < 2 ^ n := by
      have h2 : ((2 ^ n : Nat) : Int) = (2 : Int) ^ n := by simp
      rw [← h2] at c4
      exact Int.ofNat_lt.1 c4
    have H := Aside0.mk (mapped_calls n s (by omega) (by omega) hs w hT)
    clear hT hs c4
    refine (callsIn_wide (n := 3)).1 ?_
    refine callsIn_of_wp Tryd.func24 rfl trivial ?_ rfl
    simp only [Tryd.ntmps24, List.size_toArray, List.length_cons, List.length_nil, Nat.reduceAdd, Nat.reduceSub, Array.replicate_succ, Array.replicate_zero, List.push_toArray, List.append_toArray, List.nil_append, List.cons_append]
    gi_wp2_with fail
    refine ⟨trivial, ?_⟩
    refine (callsIn_wide.2 H.out).mono ?_
    rintro e w' ⟨rfl, hb⟩
    have HB := Aside0.mk hb
    clear hb
    gi_wp2_with fail

    refine bodyPost_ret (by simp [results, Tryd.results24, go_sem]; rfl) rfl ?_
    exact ⟨rfl, HB.out⟩
  · rw [if_neg c] at h
    cases h
end
end Go.Proofs.YtolnpamjkhbgeaaDoor.P
end
