-- Written by this session's program (wip/tools/myprint.py) out of the translation.
import Derived.Test.YthbcdmbicfmeaaaP0
import Derived.Test.YthbcdmbicfmeaaaP1
import Derived.Test.YthbcdmbicfmeaaaP2
import Derived.Test.YthbcdmbicfmeaaaP5
import Derived.Test.YthbcdmbicfmeaaaP10
import Derived.Test.YthbcdmbicfmeaaaP14
import Derived.LoopIn
import Derived.LoopNIn
import Derived.OwnWalkIn
import Derived.RangeFuncBound
import Derived.RangeFuncBox
import Derived.RangeFuncCalls
import Derived.RangeFuncLeaves
import Derived.RangeFuncNested
import Derived.Shelf.Abstract
import Derived.Shelf.AbstractIn
import Derived.Shelf.RegionOpen
import Derived.Sort.BigQuietIn
import Derived.Sort.QuietIn
import Derived.TacticsInMore
import Derived.Test.YthbcdmbicfmeaaaQuiet
import Derived.Test.YthbcdmbicfmeaaaRange
import Derived.Test.YthbcdmbicfmeaaaRange2
import Derived.WalkKit
namespace Go.Proofs.Ythbcdmbicfmeaaa.P
open Go.RowKit Go.Proofs.YthbcdmbicfmeaaaW.PrintWords Go.Proofs.YthbcdmbicfmeaaaW.PrintLast Go.Proofs.YthbcdmbicfmeaaaW.PrintMore
attribute [local go_sem] max2_int min2_int max_two min_two max_three min_three max_four min_four   -- for this text's walks alone
set_option linter.unusedVariables false
set_option linter.unusedSimpArgs false

/-! ### even_Most: function 37 (our own proof) -/
-- extern even_Most: function 37: kinds ['i64', 'i64']: results ['sl3:i64', 'i64']
/-- The greatest sum and the sets that have it, behind one scale more. -/
def even_Most.step (k : Nat) (st : Int × List Int) (z : Int × Int × List Int) : Option (Int × List Int) :=
  (even_scale_sum.f k z.2.1 z.2.2).bind fun x => some (if x > st.1 then (x, [z.1]) else if x = st.1 then (st.1, st.2 ++ [z.1]) else st)
def even_Most.best (k : Nat) : List (Int × Int × List Int) → Int × List Int → Option (Int × List Int)
  | [], st => some st
  | z :: zs, st => (even_Most.step k st z).bind fun st' => even_Most.best k zs st'
theorem even_Most.best_mono : ∀ (zs : List (Int × Int × List Int)) (k : Nat) (st : Int × List Int), LeO (even_Most.best k zs st) (even_Most.best (k + 1) zs st)
  | [], _, _ => LeO.refl _
  | z :: zs, k, st => LeO.bind (LeO.bind (even_scale_sum.mono _ _ _) (fun _ => LeO.refl _)) (fun _ => even_Most.best_mono zs k _)
def even_Most.f (k : Nat) (a0 a1 : Int) : Option (List Int × Int) := if 2 ≤ a0 ∧ a0 ≤ 16 ∧ 1 ≤ a1 ∧ a1 ≤ a0 then (even_scales.from k a0 a1 1 (2 ^ a0.toNat - 1)).bind fun zs => (even_Most.best k zs (-1, [])).bind fun st => some (st.2, 0) else some ([], 2)
theorem even_Most.mono : ∀ a0 a1 k, LeO (even_Most.f k a0 a1) (even_Most.f (k + 1) a0 a1) := fun a0 a1 k => LeO.ite (LeO.bind (even_scales.from_mono _ _ _ _ _) (fun _ => LeO.bind (even_Most.best_mono _ _ _) (fun _ => LeO.refl _))) (LeO.refl _)
section
open Go.Shelf
attribute [local go_sem] Oper.semAt_some
theorem compare_f (x b : Int) : cmp_Compare_int.f x b = some (if x < b then -1 else if x > b then 1 else 0) := by
  simp only [cmp_Compare_int.f, cmp_isNaN_int.f, Option.bind_some]
  rw [if_neg (by simp), if_neg (by simp)]
  split
  · rfl
  · split <;> rfl
/-- The same without the chance to fail. -/
def even_Most.sure (k : Nat) (st : Int × List Int) (z : Int × Int × List Int) : Int × List Int := (even_Most.step k st z).getD st
theorem even_Most.best_sure (k : Nat) : ∀ (zs : List (Int × Int × List Int)) (st r : Int × List Int), even_Most.best k zs st = some r → r = zs.foldl (even_Most.sure k) st ∧ ∀ z, z ∈ zs → ∃ x, even_scale_sum.f k z.2.1 z.2.2 = some x
  | [], st, r, h => by
    obtain rfl := Option.some.inj h
    exact ⟨rfl, fun z hz => by simp at hz⟩
  | z :: zs, st, r, h => by
    obtain ⟨st', h1, h2⟩ := Option.bind_eq_some_iff.1 h
    obtain ⟨h3, h4⟩ := even_Most.best_sure k zs st' r h2
    obtain ⟨x, hx, hx2⟩ := Option.bind_eq_some_iff.1 h1
    refine ⟨?_, fun y hy => ?_⟩
    · rw [h3, List.foldl_cons]
      congr 1
      unfold even_Most.sure
      rw [h1]
      rfl
    · rcases List.mem_cons.1 hy with rfl | hy
      · exact ⟨x, hx⟩
      · exact h4 y hy
theorem even_Most.sure_len (k : Nat) : ∀ (zs : List (Int × Int × List Int)) (st : Int × List Int), (zs.foldl (even_Most.sure k) st).2.length ≤ max st.2.length 1 + zs.length
  | [], st => by simp; omega
  | z :: zs, st => by
    rw [List.foldl_cons]
    have h := even_Most.sure_len k zs (even_Most.sure k st z)
    have h2 : (even_Most.sure k st z).2.length ≤ max st.2.length 1 + 1 := by
      unfold even_Most.sure even_Most.step
      cases even_scale_sum.f k z.2.1 z.2.2 with
      | none => exact Nat.le_trans (Nat.le_max_left _ _) (Nat.le_succ _)
      | some x =>
        simp only [Option.bind_some, Option.getD_some]
        split
        · simp
        · split
          · simp; omega
          · omega
    rw [List.length_cons]
    omega
set_option maxHeartbeats 4000000 in
set_option maxRecDepth 100000 in
theorem even_Most.calls (k : Nat) (a0 : Int) (a1 : Int) (r1 : List Int) (r2 : Int) (w : World) (h : even_Most.f k a0 a1 = some (r1, r2)) :
    Calls Try.prog 37 #[.int .i64 a0, .int .i64 a1] w fun e w' => ∃ v0_ : Value, e = .returned (.tuple #[v0_, .int .i64 r2]) ∧ Kd.R (Kd.int .i64) 3 w' w.heap.size (fun _ => True) v0_ r1 ∧ Below w.heap.size w w' := by
  have hci := Aside0.mk (circle_f a0)
  refine (callsIn_wide (n := 5)).1 ?_
  refine callsIn_of_wp_marks Try.func37 rfl trivial ?_ rfl
  simp only [Try.ntmps37, List.size_toArray, List.length_cons, List.length_nil, Nat.reduceAdd, Nat.reduceSub, Array.replicate_succ, Array.replicate_zero, List.push_toArray, List.append_toArray, List.nil_append, List.cons_append]
  by_cases hv : 2 ≤ a0 ∧ a0 ≤ 16 ∧ 1 ≤ a1 ∧ a1 ≤ a0
  · rw [even_Most.f, if_pos hv] at h
    obtain ⟨zs, hz, h⟩ := Option.bind_eq_some_iff.1 h
    obtain ⟨st, hl, h⟩ := Option.bind_eq_some_iff.1 h
    obtain ⟨rfl, rfl⟩ : st.2 = r1 ∧ (0 : Int) = r2 := by simpa using h
    have HL := Aside0.mk hl
    have HZ := Aside0.mk hz
    clear h hl hz
    have d1 : decide (2 ≤ a0 ∧ a0 ≤ 16) = true := decide_eq_true ⟨hv.1, hv.2.1⟩
    have d2 : decide (a1 < 1) = false := decide_eq_false (by omega)
    have d3 : decide (a0 < a1) = false := decide_eq_false (by omega)
    gi_wp2_with (refine ⟨trivial, ?_⟩; gi_at_call 47; refine (callsIn_wide.2 (even_isCircle.calls a0 _ _ hci.out)).mono ?_; rintro e w0 ⟨rfl, hd0⟩; have HD := Aside0.mk (show Below w.heap.size w w0 ∧ w0.heap.size = w.heap.size by (obtain ⟨nd, rfl⟩ := hd0; exact ⟨pw_below_drewN (Below.refl _ w) nd, rfl⟩)); clear hd0)
    refine ⟨trivial, ?_⟩
    refine (callsIn_wide.2 (scales_calls a0 a1 _)).mono ?_
    rintro e w' ⟨b1, b2, rfl, hb1, hb2, hg1, hg2, hbel⟩
    have HB1 := Aside0.mk hb1
    have HB2 := Aside0.mk hb2
    have HBel := Aside0.mk hbel
    clear hb1 hb2 hbel
    gi_wp2
    obtain ⟨hsel, hall⟩ := even_Most.best_sure k zs (-1, []) st HL.out
    have HSel := Aside0.mk hsel
    have HAll := Aside0.mk hall
    have hzl := even_scales.from_length k a0 a1 _ _ zs HZ.out
    have hp16 : 2 ^ a0.toNat ≤ 65536 := Nat.le_trans (Nat.pow_le_pow_right (n := 2) (by decide) (show a0.toNat ≤ 16 by omega)) (by decide)
    have HzL := Aside0.mk (show zs.length ≤ 65536 by omega)
    obtain ⟨i0, hi, hz0, hz1, hz2⟩ := info_parts (show (Try.prog.info? 3).map (fun i => (i.zero, i.size, i.bytes)) = some (some (.int .i64 0), 1, 8) by kernel_rfl)
    have hpos : 1 ≤ 2 ^ a0.toNat := Nat.two_pow_pos _
    have hshl : wrap64 (2 ^ min a0.toNat 64) = ((2 ^ a0.toNat : Nat) : Int) := by
      rw [Nat.min_eq_left (by omega)]
      have : (2 ^ a0.toNat : Int) = ((2 ^ a0.toNat : Nat) : Int) := by simp
      rw [this]
      unfold wrap64
      omega
    simp at hg1 hg2
    have hBA : Below w0.heap.size w0 ((w0.alloc (.cells #[.int .i64 (-1)] 3)).alloc (.cells #[.slice none 0 0] 32)) := ((Below.refl _ w0).alloc (Nat.le_refl _) _).alloc (by simp) _
    have HB0 : Below w0.heap.size w0 w' := hBA.trans (HBel.out.mono (by simp; omega))
    have HBest : Boxed w' w0.heap.size 3 (.int .i64 (-1)) := Boxed.below ((Boxed.new w0 3 (.int .i64 (-1))).alloc _) HBel.out
    have HBox : Boxed w' (w0.heap.size + 1) 32 (.slice none 0 0) := by
      have := Boxed.new (w0.alloc (.cells #[.int .i64 (-1)] 3)) 32 (.slice none 0 0)
      rw [World.size_alloc] at this
      exact Boxed.below this HBel.out
    have hlt1 := (Array.getElem?_eq_some_iff.1 HB1.out).1
    have hlt2 := (Array.getElem?_eq_some_iff.1 HB2.out).1
    clear hsel hall hzl
    refine Range.wp_range_at (gf := 64) (fst := #[]) (lb := #[.pointer (some ⟨b1, 0, none⟩), .pointer (some ⟨b2, 0, none⟩)]) rfl (enters_of Try.func64 (by kernel_rfl) rfl)
      (scales_iter 3 k a0 a1 (2 ^ a0.toNat) hpos (by omega) (by omega) hshl zs HZ.out b1 b2 w' HB1.out HB2.out) (Below.refl _ _) (fun h k => ⟨k.1.trans h.1, k.2.trans h.2⟩)
      (fun h => by
        obtain ⟨l, o, o', hl, ho, hc, rfl⟩ := h
        exact ⟨World.putObj_heap_other (by omega), World.putObj_heap_other (by omega)⟩) (fun _ => rfl)
      (fun pre W => pre.map (·.1) = zs.take pre.length ∧ Boxed W w0.heap.size 3 (.int .i64 ((pre.map (·.1)).foldl (even_Most.sure k) (-1, [])).1) ∧ (∃ v, Boxed W (w0.heap.size + 1) 32 v ∧ W.ownsRow w'.heap.size 3 1 v ((pre.map (·.1)).foldl (even_Most.sure k) (-1, [])).2.length (((pre.map (·.1)).foldl (even_Most.sure k) (-1, [])).2.map (Value.int .i64))) ∧ W.heap[b1]? = some (.cells #[.int .i64 a0] 3 (0, 0)) ∧ W.heap[b2]? = some (.cells #[.int .i64 a1] 3 (0, 0)) ∧ w'.heap.size ≤ W.heap.size ∧ Below w0.heap.size w0 W)
      (fun _ _ _ => False)
      (fun s A B h hb => ⟨h.1, Boxed.below h.2.1 hb, by obtain ⟨v, h1, h2⟩ := h.2.2.1; exact ⟨v, Boxed.below h1 hb, own_below h2 hb⟩, Range.block_below h.2.2.2.1 hb, Range.block_below h.2.2.2.2.1 hb, Nat.le_trans h.2.2.2.2.2.1 hb.size, h.2.2.2.2.2.2.trans (hb.mono h.2.2.2.2.2.2.size)⟩)
      (fun s A B h hb => ⟨h.1, Range.block_noted h.2.1 (by omega) hb, by obtain ⟨v, h1, h2⟩ := h.2.2.1; exact ⟨v, Range.block_noted h1 (by omega) hb, own_noted h2 hb⟩, Range.block_noted h.2.2.2.1 (by omega) hb, Range.block_noted h.2.2.2.2.1 (by omega) hb, by (obtain ⟨l, o, o', hl, ho, hc, rfl⟩ := hb; simpa using h.2.2.2.2.2.1), Range.below_noted h.2.2.2.2.2.2 (by omega) (Nat.le_refl _) hb⟩)
      (fun _ _ _ _ h _ => h) (fun _ _ _ _ h _ => h)
      ⟨rfl, HBest, ⟨_, HBox, World.ownsRow_nil _ _ _ _⟩, HB1.out, HB2.out, Nat.le_refl _, HB0⟩
      (fun x W => { tmps := #[.int .i64 a0, .int .i64 a1, undef, undef, .slice none 0 0, .int .i64 0, .pointer (some ⟨w0.heap.size, 0, none⟩), .pointer (some ⟨w0.heap.size + 1, 0, none⟩), .int .i64 x.1.1, .pointer (some ⟨W.heap.size, 0, none⟩), undef, .int .i64 a0, .bool true, .bool false, .bool false, .int .i64 a1, .bool false, .bool false, .bool false, .int .i64 a1, .int .i64 a0, .bool false, .bool false, .int .i64 a0, .int .i64 a1, .func (.func 64) #[] #[.pointer (some ⟨b1, 0, none⟩), .pointer (some ⟨b2, 0, none⟩)], .int .i64 x.1.1, .agg #[.int .i64 x.1.2.1, .slice x.2.1 x.1.2.2.length x.2.2], undef, undef, undef, undef, undef, undef, undef, undef, undef, undef, undef, undef, undef, undef, undef, undef, undef, undef, undef], defers := [] })
      (fun x W => W.alloc (.cells #[.int .i64 x.1.2.1, .slice x.2.1 x.1.2.2.length x.2.2] 47)) (fun x W => (Below.refl _ W).alloc (Nat.le_refl _) _)
      (fun pre x W h => ⟨Below.heap_alloc _ _ _ (by have := (Array.getElem?_eq_some_iff.1 h.2.2.2.1).1; omega), Below.heap_alloc _ _ _ (by have := (Array.getElem?_eq_some_iff.1 h.2.2.2.2.1).1; omega)⟩)
      ?assign ?body ?done ?stop
    case assign =>
      intro l x W K hK
      gi_wp2
      exact hK
    case body =>
      rintro l pre ⟨⟨s, m, t⟩, A, c⟩ W W' hi_ ⟨hzx, hlc, hC0⟩ hno ⟨hp, hbs, ⟨v, hv, hrow⟩, hb1, hb2, hge, hbel⟩
      dsimp only at hzx hlc hC0 hno
      have hbox : W'.heap[W.heap.size]? = some (.cells #[.int .i64 m, .slice A t.length c] 47 (0, 0)) := (Range.KeepsCells.of_noted hno).2 _ _ (World.alloc_heap_new W _) rfl
      have hC' : Kd.C (Kd.int .i64) W' A t.length t := (Range.KeepsCells.of_noted hno).reads (Kd.C_below hC0 ((Below.refl _ W).alloc (Nat.le_refl _) _))
      obtain ⟨x, hx⟩ := HAll.out (s, m, t) (List.mem_of_getElem? hzx)
      have HP := Aside0.mk hp
      have HZx := Aside0.mk hzx
      have hpz : pre.length ≤ 65536 := by
        have h2 : (pre.map (·.1)).length ≤ zs.length := by rw [hp, List.length_take]; omega
        have := HzL.out
        simp at h2
        omega
      have hpl := even_Most.sure_len k (pre.map (·.1)) (-1, [])
      rw [List.length_map] at hpl
      have snoc : (pre ++ [(((s, m, t), A, c) : Scales)]).map (·.1) = zs.take (pre ++ [(((s, m, t), A, c) : Scales)]).length := by
        have hpl2 : pre.length < zs.length := (List.getElem?_eq_some_iff.1 HZx.out).1
        have e := (List.getElem?_eq_some_iff.1 HZx.out).2
        rw [List.length_append, List.length_singleton, List.map_append, HP.out, List.take_succ_eq_append_getElem hpl2, e]
        rfl
      have fold : ((pre ++ [(((s, m, t), A, c) : Scales)]).map (·.1)).foldl (even_Most.sure k) (-1, []) = even_Most.sure k ((pre.map (·.1)).foldl (even_Most.sure k) (-1, [])) (s, m, t) := by
        rw [List.map_append, List.foldl_append]
        rfl
      obtain ⟨best, out, hst⟩ : ∃ best out, (pre.map (·.1)).foldl (even_Most.sure k) (-1, []) = (best, out) := ⟨_, _, rfl⟩
      rw [hst] at hbs hrow hpl fold
      dsimp only at hbs hrow hpl
      clear hi_ hp hzx hst
      gi_wp2_with fail
      refine Range.region_class (C := fun V => Below W'.heap.size W' V) (below_drew1 (Below.refl _ W')) rfl (by kernel_rfl) (by kernel_rfl) ?_
      have box0 : ∀ V, Below W'.heap.size W' V → V.cell? ⟨W.heap.size, 0, none⟩ = some (.int .i64 m) := fun V h => (blk_cell (Range.block_below hbox h) 0).trans rfl
      have box1 : ∀ V, Below W'.heap.size W' V → V.cell? ⟨W.heap.size, 1, none⟩ = some (.slice A t.length c) := fun V h => (blk_cell (Range.block_below hbox h) 1).trans rfl
      have bst : ∀ V, Below W'.heap.size W' V → V.cell? ⟨w0.heap.size, 0, none⟩ = some (.int .i64 best) := fun V h => (Boxed.below hbs h).cell
      obtain ⟨cv, hcv⟩ : ∃ cv, cmp_Compare_int.f x best = some cv := ⟨_, compare_f x best⟩
      refine ⟨BigFrame.askedIn_plain (fun _ h => nomatch h), ?_⟩
      rw [if_pos (by rfl)]
      refine ⟨.agg #[.int .i64 m, .slice A t.length c], fun V hV => ?_, ?_⟩
      · have q0 := box0 V hV
        have q1 := box1 V hV
        simp [Oper.quietAtIn, Oper.quietUponIn, go_sem, q0, q1]
      refine ⟨fun _ _ _ _ => trivial, ?_⟩
      rw [if_pos (by rfl)]
      refine ⟨.int .i64 x, fun V hV => ?_, ?_⟩
      · simp [Oper.quietAtIn, Oper.quietUponIn, go_sem]
        exact (CallsIn.inRound l (callsIn_wide.2 (even_scale_sum.calls k m A c t x V (Kd.C_below hC' hV) hlc hx))).mono (fun e V2 h => ⟨h.1, hV.trans (h.2.mono hV.size)⟩)
      refine ⟨BigFrame.askedIn_plain (fun _ h => nomatch h), ?_⟩
      rw [if_pos (by rfl)]
      refine ⟨.int .i64 best, fun V hV => ?_, ?_⟩
      · have q0 := bst V hV
        simp [Oper.quietAtIn, Oper.quietUponIn, go_sem, q0]
      refine ⟨fun _ _ _ _ => trivial, ?_⟩
      rw [if_pos (by rfl)]
      refine ⟨.int .i64 cv, fun V hV => ?_, ?_⟩
      · simp [Oper.quietAtIn, Oper.quietUponIn, go_sem]
        exact (CallsIn.inRound l (callsIn_wide.2 (cmp_Compare_int.calls x best cv V hcv))).mono (fun e V2 h => ⟨h.1, by obtain ⟨nd, rfl⟩ := h.2; exact pw_below_drewN hV nd⟩)
      refine ⟨BigFrame.askedIn_plain (fun _ h => nomatch h), ?_⟩
      rw [if_pos (by rfl)]
      refine ⟨.int .i64 cv, fun V hV => ?_, ?_⟩
      · simp [Oper.quietAtIn, Oper.quietUponIn, go_sem]
      intro W2 hbw
      refine (show Exit.then _ _ Exit.normal { tmps := #[.int .i64 a0, .int .i64 a1, undef, undef, .slice none 0 0, .int .i64 0, .pointer (some ⟨w0.heap.size, 0, none⟩), .pointer (some ⟨w0.heap.size + 1, 0, none⟩), .int .i64 s, .pointer (some ⟨W.heap.size, 0, none⟩), .int .i64 cv, .int .i64 a0, .bool true, .bool false, .bool false, .int .i64 a1, .bool false, .bool false, .bool false, .int .i64 a1, .int .i64 a0, .bool false, .bool false, .int .i64 a0, .int .i64 a1, .func (.func 64) #[] #[.pointer (some ⟨b1, 0, none⟩), .pointer (some ⟨b2, 0, none⟩)], .int .i64 s, .agg #[.int .i64 m, .slice A t.length c], .agg #[.int .i64 m, .slice A t.length c], .int .i64 x, .int .i64 best, .int .i64 cv, undef, undef, undef, undef, undef, undef, undef, undef, undef, undef, undef, undef, undef, undef, undef], defers := [] } W2 from ?_)
      have hc0 := box0 W2 hbw
      have hc1 := box1 W2 hbw
      have hbs2 := Boxed.below hbs hbw
      have hv2 := Boxed.below hv hbw
      have hrow2 := own_below hrow hbw
      have hb12 := Range.block_below hb1 hbw
      have hb22 := Range.block_below hb2 hbw
      have hbox2 := Range.block_below hbox hbw
      have hge2 := Nat.le_trans hge hbw.size
      have hbel2 := hbel.trans (hbw.mono hbel.size)
      have hko : KeepsOthers W' W2 := ⟨hbw.size, fun i o h _ => (hbw.block i (Array.getElem?_eq_some_iff.1 h).1).trans h⟩
      have hcv' : cv = if x < best then -1 else if x > best then 1 else 0 := by
        have := hcv.symm.trans (compare_f x best)
        exact Option.some.inj this
      have hC2 := Kd.C_below hC' hbw
      have SN := Aside0.mk snoc
      have FO := Aside0.mk fold
      have HX := Aside0.mk hx
      clear snoc fold hx hcv
      clear box0 box1 bst hC0 hbox hbs hv hrow hb1 hb2 hC'
      have sure_eq : even_Most.sure k (best, out) (s, m, t) = if x > best then (x, [s]) else if x = best then (best, out ++ [s]) else (best, out) := by
        unfold even_Most.sure even_Most.step
        rw [HX.out]
        rfl
      have SU := Aside0.mk sure_eq
      clear sure_eq
      rcases Int.lt_trichotomy x best with hx1 | hx1 | hx1
      · obtain rfl : cv = -1 := by rw [hcv', if_pos hx1]
        have e : even_Most.sure k (best, out) (s, m, t) = (best, out) := by rw [SU.out, if_neg (by omega), if_neg (by omega)]
        have E := Aside0.mk e
        clear hcv' hx1 e
        gi_wp2_with fail
        refine ⟨hko, ⟨hbw.block b1 (by omega), hbw.block b2 (by omega)⟩, SN.out, ?_, ⟨v, hv2, ?_⟩, hb12, hb22, hge2, hbel2⟩
        · rw [FO.out, E.out]
          exact hbs2
        · rw [FO.out, E.out]
          exact hrow2
      · obtain rfl : cv = 0 := by rw [hcv', if_neg (by omega), if_neg (by omega)]
        have e : even_Most.sure k (best, out) (s, m, t) = (best, out ++ [s]) := by rw [SU.out, if_neg (by omega), if_pos hx1]
        have E := Aside0.mk e
        clear hcv' hx1 e
        have hc := hv2.cell
        have hlo : w0.heap.size ≤ w'.heap.size := HB0.size
        gi_wp2_with (gi_at_builtin; refine wpListIn_append_own _ rfl _ _ 32 rfl w'.heap.size 3 i0 (.int .i64 0) 1 8 Try.underlying32 hi hz0 hz1 hz2 rfl (by decide) _ _ _ rfl (hrow2.alloc _) ⟨W2.heap.size, 0, none⟩ 1 1 [.int .i64 s] rfl rfl (cell_one_new _ _ _) (by simp [Value.oneCell']) (by unfold maxLen; simp at hpl; omega) (by simp at hpl; omega) (by simp; omega) ?_; intro v' w1 hown' hgrow _; obtain ⟨g', cap', rfl⟩ := ownsRow_succ hown'; obtain ⟨hv1, hv3, hr3, hk3, hb3⟩ := hv2.appended (by decide) (own_lower hrow2 hlo) (Nat.le_trans hlo hge2) (Nat.le_succ _) (own_lower hown' hlo) hgrow; have hc1 := hv1.cell; have hf1 := hv1.frozen)
        have stay : ∀ b, b ≠ w0.heap.size + 1 → b < w'.heap.size → (w1.setCell ⟨w0.heap.size + 1, 0, none⟩ (.slice (some ⟨g', 0, none⟩) (out.length + 1) cap')).heap[b]? = W2.heap[b]? := fun b h1 h2 =>
          (Below.heap_setCell w1 ⟨w0.heap.size + 1, 0, none⟩ _ b h1).trans ((hgrow.block b (by simp; omega) (own_away hrow2 h2)).trans (Below.heap_alloc _ _ _ (by omega)))
        have s0 := stay w0.heap.size (by omega) (by omega)
        have s1 := stay b1 (by omega) hlt1
        have s2 := stay b2 (by omega) hlt2
        have hsz3 := hb3.size
        refine ⟨hko.trans hk3, ⟨s1.trans (hbw.block b1 (by omega)), s2.trans (hbw.block b2 (by omega))⟩, SN.out, ?_, ⟨_, hv3, ?_⟩, s1.trans hb12, s2.trans hb22, by omega, hbel2.trans hb3⟩
        · rw [FO.out, E.out]
          exact s0.trans hbs2
        · rw [FO.out, E.out, List.map_append, List.length_append]
          exact hown'.kept (grownBy_setCell' w1 (w0.heap.size + 1) _) (.inr (hv1.not_row (by decide) (own_lower hown' hlo)).symm)
      · obtain rfl : cv = 1 := by rw [hcv', if_neg (by omega), if_pos hx1]
        have e : even_Most.sure k (best, out) (s, m, t) = (x, [s]) := by rw [SU.out, if_pos hx1]
        have E := Aside0.mk e
        clear hcv' hx1 e
        have hlo : w0.heap.size ≤ w'.heap.size := HB0.size
        gi_wp2_with fail
        refine ⟨trivial, ?_⟩
        refine (CallsIn.inRound l (callsIn_wide.2 (even_scale_sum.calls k m A c t x W2 hC2 hlc HX.out))).mono ?_
        rintro e W3 ⟨rfl, hb3⟩
        have HB3 := Aside0.mk hb3
        have hbs3 := Boxed.below hbs2 hb3
        have hv3 := Boxed.below hv2 hb3
        have hsz3 := hb3.size
        clear hb3
        have u0 := (hbs3.alloc (.cells #[.int .i64 s] 3)).cell
        have u1 := (hbs3.alloc (.cells #[.int .i64 s] 3)).frozen
        have hvv : Boxed ((W3.alloc (.cells #[.int .i64 s] 3)).setCell ⟨w0.heap.size, 0, none⟩ (.int .i64 x)) (w0.heap.size + 1) 32 v := (hv3.alloc _).kept (grownBy_setCell' _ _ _) (by simp)
        have u2 := hvv.cell
        have u3 := hvv.frozen
        gi_wp2_with fail
        have hs3 : W2.heap.size ≤ W3.heap.size := hsz3
        have hbel3 := hbel2.trans (HB3.out.mono hbel2.size)
        have hsz2 := hbw.size
        have stay : ∀ b, b ≠ w0.heap.size → b ≠ w0.heap.size + 1 → b < w'.heap.size → (((W3.alloc (.cells #[.int .i64 s] 3)).setCell ⟨w0.heap.size, 0, none⟩ (.int .i64 x)).setCell ⟨w0.heap.size + 1, 0, none⟩ (.slice (some ⟨W3.heap.size, 0, none⟩) 1 1)).heap[b]? = W2.heap[b]? := fun b h0 h1 h2 =>
          (Below.heap_setCell _ ⟨w0.heap.size + 1, 0, none⟩ _ b h1).trans ((Below.heap_setCell _ ⟨w0.heap.size, 0, none⟩ _ b h0).trans ((Below.heap_alloc _ _ _ (by omega)).trans (HB3.out.block b (by omega))))
        have s1 := stay b1 (by omega) (by omega) hlt1
        have s2 := stay b2 (by omega) (by omega) hlt2
        have hko3 : KeepsOthers W2 W3 := ⟨hs3, fun i o h _ => (HB3.out.block i (Array.getElem?_eq_some_iff.1 h).1).trans h⟩
        refine ⟨hko.trans (hko3.trans ((KeepsOthers.alloc _ _).trans ((KeepsOthers.setCell _ _ _).trans (KeepsOthers.setCell _ _ _)))), ⟨s1.trans (hbw.block b1 (by omega)), s2.trans (hbw.block b2 (by omega))⟩, SN.out, ?_, ⟨_, hvv.set _, ?_⟩, s1.trans hb12, s2.trans hb22, by simp [World.setCell]; omega, ?_⟩
        · rw [FO.out, E.out]
          exact ((hbs3.alloc (.cells #[.int .i64 s] 3)).set (.int .i64 x)).kept (grownBy_setCell' _ _ _) (by simp)
        · rw [FO.out, E.out]
          refine ⟨rfl, .inr ⟨W3.heap.size, 1, #[.int .i64 s], rfl, by omega, ?_, Nat.le_refl _, by unfold maxLen; omega, rfl, rfl⟩⟩
          exact (Below.heap_setCell _ ⟨w0.heap.size + 1, 0, none⟩ _ _ (by simp; omega)).trans ((Below.heap_setCell _ ⟨w0.heap.size, 0, none⟩ _ _ (by simp; omega)).trans (World.alloc_heap_new _ _))
        · exact below_set (below_set (hbel3.alloc (by omega) _) (Nat.le_refl _)) (by omega)
    case done =>
      rintro D xs W hD hS ⟨hp, hbs, ⟨v, hv, hrow⟩, hb1, hb2, hge, hbel⟩ hK
      have hc := hv.cell
      have hl2 := HSel.out
      rw [← hS] at hl2
      have HL2 := Aside0.mk hl2
      clear hl2
      gi_wp2_with fail
      refine ⟨by simp, .inl ⟨_, _, rfl, run_takeDeferred hK, ?_⟩⟩
      have hD' : w'.heap.size ≤ D := hD
      have hlo : w.heap.size ≤ w'.heap.size := by have := HB0.size; have := HD.out.2; omega
      have hrow3 := ownsRow_putObj (own_lower hrow hlo) (.deferred none) hK rfl
      refine ⟨.tuple #[v, .int .i64 0], by simp [results, Try.results37, go_sem], v, rfl, ?_, ?_⟩
      · rw [HL2.out]
        exact Kd.R_of_own hrow3 (fun _ _ => trivial)
      · have h1 : Below w.heap.size w W := HD.out.1.trans (hbel.mono (by rw [HD.out.2]; exact Nat.le_refl _))
        exact h1.grown (grownBy_putObj' _ D _) h1.size (fun k e => by cases e; omega)
    case stop =>
      rintro D c pre W _ _ h _
      exact h.elim
  · rw [even_Most.f, if_neg hv] at h
    obtain ⟨rfl, rfl⟩ : [] = r1 ∧ (2 : Int) = r2 := by simpa using h
    by_cases c1 : 2 ≤ a0 ∧ a0 ≤ 16
    · have d1 : decide (2 ≤ a0 ∧ a0 ≤ 16) = true := decide_eq_true c1
      by_cases c2 : a1 < 1
      · have d2 : decide (a1 < 1) = true := decide_eq_true c2
        gi_wp2_with (refine ⟨trivial, ?_⟩; gi_at_call 47; refine (callsIn_wide.2 (even_isCircle.calls a0 _ _ hci.out)).mono ?_; rintro e w' ⟨rfl, ⟨nd, rfl⟩⟩)
        exact ⟨.tuple #[.slice none 0 0, .int .i64 2], by simp [results, Try.results37, go_sem], _, rfl, Kd.R_nil _ _ _ _ _, pw_below_drewN (Below.refl _ _) _⟩
      · have d2 : decide (a1 < 1) = false := decide_eq_false c2
        have d3 : decide (a0 < a1) = true := decide_eq_true (by omega)
        gi_wp2_with (refine ⟨trivial, ?_⟩; gi_at_call 47; refine (callsIn_wide.2 (even_isCircle.calls a0 _ _ hci.out)).mono ?_; rintro e w' ⟨rfl, ⟨nd, rfl⟩⟩)
        exact ⟨.tuple #[.slice none 0 0, .int .i64 2], by simp [results, Try.results37, go_sem], _, rfl, Kd.R_nil _ _ _ _ _, pw_below_drewN (Below.refl _ _) _⟩
    · have d1 : decide (2 ≤ a0 ∧ a0 ≤ 16) = false := decide_eq_false c1
      gi_wp2_with (refine ⟨trivial, ?_⟩; gi_at_call 47; refine (callsIn_wide.2 (even_isCircle.calls a0 _ _ hci.out)).mono ?_; rintro e w' ⟨rfl, ⟨nd, rfl⟩⟩)
      exact ⟨.tuple #[.slice none 0 0, .int .i64 2], by simp [results, Try.results37, go_sem], _, rfl, Kd.R_nil _ _ _ _ _, pw_below_drewN (Below.refl _ _) _⟩
end

/-! ### sackbutref03_Most: function 39 -/
def sackbutref03_Most.l0 : Nat → Int → Int → Int → List Int → Int → Option (List Int)
  | 0, _, _, _, _, _ => none
  | k + 1, x0, x1, x5, x6, x7 => if 0 ≤ x0 then (if x7 < (shl .i64 1 x0) then ((sackbutref03_Tones.f k x0 x7).bind fun t397 => (if (t397.length : Int) = x1 then ((sackbutref03_Sum.f k x0 x7).bind fun t400 => (if t400 > x5 then (if t400 = t400 then (if ([] : List Int).length < 17592186044416 then (sackbutref03_Most.l0 k x0 x1 t400 (([] : List Int) ++ [x7]) (wrap64 (x7 + 1))) else (none)) else (sackbutref03_Most.l0 k x0 x1 t400 ([] : List Int) (wrap64 (x7 + 1)))) else (if t400 = x5 then (if x6.length < 17592186044416 then (sackbutref03_Most.l0 k x0 x1 x5 (x6 ++ [x7]) (wrap64 (x7 + 1))) else (none)) else (sackbutref03_Most.l0 k x0 x1 x5 x6 (wrap64 (x7 + 1)))))) else (sackbutref03_Most.l0 k x0 x1 x5 x6 (wrap64 (x7 + 1))))) else (some x6)) else (none)
def sackbutref03_Most.f (k : Nat) (a0 : Int) (a1 : Int) : Option (List Int) := sackbutref03_Most.l0 k a0 a1 (-1) ([] : List Int) 1
theorem sackbutref03_Most.mono_l : ∀ k, (∀ y0 y1 y2 y3 y4, LeO (sackbutref03_Most.l0 k y0 y1 y2 y3 y4) (sackbutref03_Most.l0 (k + 1) y0 y1 y2 y3 y4))
  | 0 => fun _ _ _ _ _ r h => by simp [sackbutref03_Most.l0] at h
  | k + 1 => by
    have ih0 := sackbutref03_Most.mono_l k
    · intro y0 y1 y2 y3 y4
      unfold sackbutref03_Most.l0
      repeat' first
      | (with_reducible exact ih0 _ _ _ _ _)
      | (with_reducible exact sackbutref03_Sum.mono _ _ _)
      | (with_reducible exact sackbutref03_Tones.mono _ _ _)
      | (with_reducible exact LeO.refl _)
      | (with_reducible exact LeO.none _)
      | (with_reducible refine LeO.ite ?_ ?_)
      | (with_reducible refine LeO.bind ?_ (fun _ => ?_))
      | exact ih0 _ _ _ _ _
      | exact sackbutref03_Sum.mono _ _ _
      | exact sackbutref03_Tones.mono _ _ _
      | exact LeO.none _
      | refine LeO.ite ?_ ?_
      | refine LeO.bind ?_ (fun _ => ?_)
theorem sackbutref03_Most.mono : ∀ a0 a1 k, LeO (sackbutref03_Most.f k a0 a1) (sackbutref03_Most.f (k + 1) a0 a1) := by
  intro a0 a1 k
  have ih0 := sackbutref03_Most.mono_l k
  unfold sackbutref03_Most.f
  repeat' first
      | (with_reducible exact ih0 _ _ _ _ _)
      | (with_reducible exact sackbutref03_Sum.mono _ _ _)
      | (with_reducible exact sackbutref03_Tones.mono _ _ _)
      | (with_reducible exact LeO.refl _)
      | (with_reducible exact LeO.none _)
      | (with_reducible refine LeO.ite ?_ ?_)
      | (with_reducible refine LeO.bind ?_ (fun _ => ?_))
      | exact ih0 _ _ _ _ _
      | exact sackbutref03_Sum.mono _ _ _
      | exact sackbutref03_Tones.mono _ _ _
      | exact LeO.none _
      | refine LeO.ite ?_ ?_
      | refine LeO.bind ?_ (fun _ => ?_)
set_option maxHeartbeats 8000000 in
set_option maxRecDepth 100000 in
theorem sackbutref03_Most.calls (k : Nat) (a0 : Int) (a1 : Int) (r : List Int) (w : World) (h : sackbutref03_Most.f k a0 a1 = some r) :
    Calls Try.prog 39 #[.int .i64 a0, .int .i64 a1] w fun e w' => ∃ v0_ : Value, e = .returned (v0_) ∧ Kd.R (Kd.int .i64) 3 w' w.heap.size (fun _ => True) v0_ r ∧ Below w.heap.size w w' := by
  have HB := Aside0.mk (Below.refl w.heap.size w)
  have H : (sackbutref03_Most.l0 k a0 a1 (-1) ([] : List Int) 1) = some r := h
  clear h
  have H' := Aside0.mk H
  clear H
  go_enter Try.func39, Try.ntmps39
  go_wp2
  go_loopg [5, 6, 7] k (fun kq v5 v6 v7 w' => ∃ (x5_1 : Int) (x6_1 : List Int) (x7_1 : Int), v5 = .int .i64 x5_1 ∧ v7 = .int .i64 x7_1 ∧ Aside0 (sackbutref03_Most.l0 kq a0 a1 x5_1 x6_1 x7_1 = some r) ∧ Aside0 (kq ≤ k) ∧ Aside0 (Kd.R (Kd.int .i64) 3 w' w.heap.size (fun _ => True) v6 x6_1) ∧ Aside0 (Below w.heap.size w w'))
  case atStart => exact ⟨((-1)), (([] : List Int)), (1), (by first | rfl | (simp; done) | (simp [*]; done)), (by first | rfl | (simp; done) | (simp [*]; done)), H', ⟨Nat.le_refl _⟩, ⟨by first | exact Kd.R_nil _ _ _ _ _ | exact Kd.N_nil _ _ _ _ _ | exact Kd.V_nil _ _ _ _ _ | exact Kd.Q_nil _ _ _ _ _ | exact Kd.S_nil _ _ _ _ _⟩, ⟨by repeat (first | (with_reducible first | exact HB.out | apply below_alloc | apply pw_below_drewN | apply below_drew1) | exact HB.out)⟩⟩
  case round =>
    clear H'
    try clear p2
    obtain ⟨x5_1, x6_1, x7_1, rfl, rfl, HA, HK1, HO_6, HB⟩ := hrel
    cases gk with
    | zero => exact absurd HA.out (by simp [sackbutref03_Most.l0])
    | succ k1 =>
      have H := HA.out
      clear HA
      simp only [sackbutref03_Most.l0] at H
      by_cases c3 : 0 ≤ a0
      · rw [if_pos c3] at H
        have c3b0 := eq_true c3
        have c3b1 : decide (0 ≤ a0) = true := decide_eq_true c3
        clear c3
        obtain ⟨ji4, hji4⟩ : ∃ j_ : Int, (shl .i64 1 a0) = j_ := ⟨_, rfl⟩
        replace H : (if x7_1 < (ji4) then ((sackbutref03_Tones.f k1 a0 x7_1).bind fun t397 => (if (t397.length : Int) = a1 then ((sackbutref03_Sum.f k1 a0 x7_1).bind fun t400 => (if t400 > x5_1 then (if t400 = t400 then (if ([] : List Int).length < 17592186044416 then (sackbutref03_Most.l0 k1 a0 a1 t400 (([] : List Int) ++ [x7_1]) (wrap64 (x7_1 + 1))) else (none)) else (sackbutref03_Most.l0 k1 a0 a1 t400 ([] : List Int) (wrap64 (x7_1 + 1)))) else (if t400 = x5_1 then (if x6_1.length < 17592186044416 then (sackbutref03_Most.l0 k1 a0 a1 x5_1 (x6_1 ++ [x7_1]) (wrap64 (x7_1 + 1))) else (none)) else (sackbutref03_Most.l0 k1 a0 a1 x5_1 x6_1 (wrap64 (x7_1 + 1)))))) else (sackbutref03_Most.l0 k1 a0 a1 x5_1 x6_1 (wrap64 (x7_1 + 1))))) else (some x6_1)) = some r := by first | (rw [hji4] at H; exact H) | (simp only [hji4] at H ⊢; exact H)
        have hji4_ : (IntKind.i64.wrap (1 * 2 ^ min a0.toNat 64)) = ji4 := hji4
        have hji4z : a0 ≤ 64 → (IntKind.i64.wrap (1 * 2 ^ a0.toNat)) = ji4 := shl_small hji4
        have hji4u : (IntKind.i64.wrap (2 ^ min a0.toNat 64)) = ji4 := by have h_ := hji4_; rw [Int.one_mul] at h_; exact h_
        have hji4v : a0 ≤ 64 → (IntKind.i64.wrap (2 ^ a0.toNat)) = ji4 := fun hle_ => by have h_ := hji4z hle_; rw [Int.one_mul] at h_; exact h_
        have hji4y : (wrap64 (1 * 2 ^ min a0.toNat 64)) = ji4 := (i64_w _).symm.trans hji4_
        have hji4x : a0 ≤ 64 → (wrap64 (1 * 2 ^ a0.toNat)) = ji4 := fun h_ => (i64_w _).symm.trans (hji4z h_)
        by_cases c5 : x7_1 < (ji4)
        · rw [if_pos c5] at H
          have c5b0 : decide (x7_1 < (ji4)) = true := decide_eq_true c5
          clear c5
          replace H := Option.bind_eq_some_iff.mp H
          obtain ⟨t397, A60, H⟩ := H
          replace H : (if (t397.length : Int) = a1 then ((sackbutref03_Sum.f k1 a0 x7_1).bind fun t400 => (if t400 > x5_1 then (if t400 = t400 then (if ([] : List Int).length < 17592186044416 then (sackbutref03_Most.l0 k1 a0 a1 t400 (([] : List Int) ++ [x7_1]) (wrap64 (x7_1 + 1))) else (none)) else (sackbutref03_Most.l0 k1 a0 a1 t400 ([] : List Int) (wrap64 (x7_1 + 1)))) else (if t400 = x5_1 then (if x6_1.length < 17592186044416 then (sackbutref03_Most.l0 k1 a0 a1 x5_1 (x6_1 ++ [x7_1]) (wrap64 (x7_1 + 1))) else (none)) else (sackbutref03_Most.l0 k1 a0 a1 x5_1 x6_1 (wrap64 (x7_1 + 1)))))) else (sackbutref03_Most.l0 k1 a0 a1 x5_1 x6_1 (wrap64 (x7_1 + 1)))) = some r := H
          have A6 := Aside0.mk A60
          clear A60
          by_cases c7 : (t397.length : Int) = a1
          · rw [if_pos c7] at H
            have c7b0 : ((t397.length : Int) == a1) = true := beq_iff_eq.mpr c7
            have c7b1 : ((t397.length : Int) != a1) = false := bne_eq_false_iff_eq.mpr c7
            clear c7
            replace H := Option.bind_eq_some_iff.mp H
            obtain ⟨t400, A80, H⟩ := H
            replace H : (if t400 > x5_1 then (if t400 = t400 then (if ([] : List Int).length < 17592186044416 then (sackbutref03_Most.l0 k1 a0 a1 t400 (([] : List Int) ++ [x7_1]) (wrap64 (x7_1 + 1))) else (none)) else (sackbutref03_Most.l0 k1 a0 a1 t400 ([] : List Int) (wrap64 (x7_1 + 1)))) else (if t400 = x5_1 then (if x6_1.length < 17592186044416 then (sackbutref03_Most.l0 k1 a0 a1 x5_1 (x6_1 ++ [x7_1]) (wrap64 (x7_1 + 1))) else (none)) else (sackbutref03_Most.l0 k1 a0 a1 x5_1 x6_1 (wrap64 (x7_1 + 1))))) = some r := H
            have A8 := Aside0.mk A80
            clear A80
            by_cases c9 : t400 > x5_1
            · rw [if_pos c9] at H
              have c9b0 : decide (x5_1 < t400) = true := decide_eq_true c9
              clear c9
              by_cases c10 : t400 = t400
              · rw [if_pos c10] at H
                have c10b0 : (t400 == t400) = true := beq_iff_eq.mpr c10
                have c10b1 : (t400 != t400) = false := bne_eq_false_iff_eq.mpr c10
                clear c10
                by_cases c11 : ([] : List Int).length < 17592186044416
                · rw [if_pos c11] at H
                  have LMc11 := Aside0.mk c11
                  clear c11
                  obtain ⟨y401, hy401⟩ : ∃ y_ : List Int, y_ = (([] : List Int) ++ [x7_1]) := ⟨_, rfl⟩
                  replace H : (sackbutref03_Most.l0 k1 a0 a1 t400 y401 (wrap64 (x7_1 + 1))) = some r := by first | (rw [hy401]; with_reducible exact H) | (have H2_ := (Option.bind_some _ _).symm.trans H; rw [hy401]; with_reducible exact H2_) | (have H2_ := (Option.bind_some _ _).symm.trans H; with_reducible exact H2_) | with_reducible exact H | (rw [hy401]; exact H) | exact H
                  have Ny401 := Aside0.mk hy401
                  clear hy401
                  have H' := Aside0.mk H
                  clear H
                  go_wp2_with (first | ((with_reducible refine gate_callee (f := 35) rfl ?_); refine goesL_ (some 17) rfl rfl Try.func35 (by kernel_rfl) rfl #[.int .i64 a0, .int .i64 x7_1] rfl (by (try simp only [List.map_toArray, List.map_cons, List.map_nil]); first | done | rfl | (simp only [List.length_drop, List.length_take]; rfl)) ?_; (with_reducible refine (sackbutref03_Tones.calls k1 a0 x7_1 t397 _ A6.out).mono ?_); rintro e w12 ⟨v398, rfl, ho0, hb⟩; refine ⟨_, rfl, ?_⟩; have n0_ := Aside0.mk (Kd.R_elder' (by (with_reducible repeat (first | apply Kd.R_alloc | apply Kd.R_drewN | apply Kd.R_drew)); exact HO_6.out) (Kd.R_base ho0) hb); have n1_ := Aside0.mk (Kd.R_lower (Kd.R_new' ho0 (Kd.R_lt (by (with_reducible repeat (first | apply Kd.R_alloc | apply Kd.R_drewN | apply Kd.R_drew)); exact HO_6.out))) (below_size (by repeat (first | (with_reducible first | exact HB.out | apply below_alloc | apply pw_below_drewN | apply below_drew1) | exact HB.out)))); have n2_ := Aside0.mk (below_step (by repeat (first | (with_reducible first | exact HB.out | apply below_alloc | apply pw_below_drewN | apply below_drew1) | exact HB.out)) hb); clear HO_6; clear HB; have HO_6 := n0_; have HO399 := n1_; have HB := n2_; clear n0_ n1_ n2_; (try clear hb); (try clear hb2); (try clear hk); (try clear hi); (try clear ho0); obtain ⟨Ao13, co13, eo13⟩ := Kd.R_slice HO399.out; subst eo13) | ((with_reducible refine gate_callee (f := 17) rfl ?_); refine goesL_ (some 23) rfl rfl Try.func17 (by kernel_rfl) rfl #[.int .i64 a0, .int .i64 x7_1] rfl (by (try simp only [List.map_toArray, List.map_cons, List.map_nil]); first | done | rfl | (simp only [List.length_drop, List.length_take]; rfl)) ?_; (with_reducible refine (sackbutref03_Sum.calls k1 a0 x7_1 t400 _ A8.out).mono ?_); rintro e w14 ⟨rfl, hb⟩; refine ⟨_, rfl, ?_⟩; have n0_ := Aside0.mk (Kd.R_below (by (with_reducible repeat (first | apply Kd.R_alloc | apply Kd.R_drewN | apply Kd.R_drew)); exact HO_6.out) hb); have n1_ := Aside0.mk (Kd.R_below (by (with_reducible repeat (first | apply Kd.R_alloc | apply Kd.R_drewN | apply Kd.R_drew)); exact HO399.out) hb); have n2_ := Aside0.mk (below_step (by repeat (first | (with_reducible first | exact HB.out | apply below_alloc | apply pw_below_drewN | apply below_drew1) | exact HB.out)) hb); clear HO_6; clear HO399; clear HB; have HO_6 := n0_; have HO399 := n1_; have HB := n2_; clear n0_ n1_ n2_; (try clear hb); (try clear hb2); (try clear hk); (try clear hi)) | ((with_reducible refine gate_builtin (b := .append) (xs := #[.tmp 31, .tmp 33]) rfl ?_); at_builtin; refine Kd.R_append (Kd.int .i64) (w0 := w) w.heap.size rfl (.tmp 31) (.tmp 33) 32 3 (.int .i64 0) 8 rfl Try.underlying32 info3 rfl (by decide) (by omega) (.slice none 0 0) ([] : List Int) x7_1 [.int .i64 x7_1] (fun k_ => some k_ ≠ (u6 : Value).ownBlock ∧ some k_ ≠ (.slice Ao13 t397.length co13 : Value).ownBlock) (fun _ => False) rfl rfl ?aP (fun _ hk => hk.elim) ?aF ?aO ?aB ?aS ?aL ?_; (case aP => exact rfl); (case aB => exact (by repeat (first | (with_reducible first | exact HB.out | apply below_alloc | apply pw_below_drewN | apply below_drew1) | exact HB.out))); (case aF => exact (fun k_ hk => ⟨Kd.fresh' (Kd.R_lt (by (with_reducible repeat (first | apply Kd.R_alloc | apply Kd.R_drewN | apply Kd.R_drew)); exact HO_6.out)) k_ hk, Kd.fresh' (Kd.R_lt (by (with_reducible repeat (first | apply Kd.R_alloc | apply Kd.R_drewN | apply Kd.R_drew)); exact HO399.out)) k_ hk⟩)); (case aO => exact ((Kd.R_nil _ _ _ _ (fun k_ => some k_ ≠ (u6 : Value).ownBlock ∧ some k_ ≠ (.slice Ao13 t397.length co13 : Value).ownBlock)))); (case aS => exact (below_size (by repeat (first | (with_reducible first | exact HB.out | apply below_alloc | apply pw_below_drewN | apply below_drew1) | exact HB.out)))); (case aL => have := LMc11.out; omega); intro v402 w15 ho hb hg hat; rw [← Ny401.out] at ho; have n0_ := Aside0.mk (Kd.R_after (Kd.R_apart_nil (by (with_reducible repeat (first | apply Kd.R_alloc | apply Kd.R_drewN | apply Kd.R_drew)); exact HO_6.out)) hg hat); have n1_ := Aside0.mk (Kd.R_after (Kd.R_apart_nil (by (with_reducible repeat (first | apply Kd.R_alloc | apply Kd.R_drewN | apply Kd.R_drew)); exact HO399.out)) hg hat); have n2_ := Aside0.mk (hb); have n3_ := Aside0.mk (ho); clear HO_6; clear HO399; clear HB; have HO_6 := n0_; have HO399 := n1_; have HB := n2_; have HO403 := n3_; clear n0_ n1_ n2_ n3_; clear ho hb hg hat))
                  go_roundg k1
                  case measure => have := HK1.out; omega
                  case rel => exact ⟨(t400), (y401), (wrap64 (x7_1 + 1)), (by first | rfl | (simp; done) | (simp [*]; done)), (by first | rfl | (simp; done) | (simp [*]; done)), H', ⟨by have := HK1.out; omega⟩, ⟨by (with_reducible repeat (first | apply Kd.R_alloc | apply Kd.R_drewN | apply Kd.R_drew)); exact Kd.R_mono HO403.out (fun _ hk => trivial)⟩, ⟨by repeat (first | (with_reducible first | exact HB.out | apply below_alloc | apply pw_below_drewN | apply below_drew1) | exact HB.out)⟩⟩
                · rw [if_neg c11] at H
                  exact absurd H (by simp)
              · exact absurd rfl c10
            · rw [if_neg c9] at H
              have c9b0 : decide (x5_1 < t400) = false := decide_eq_false c9
              clear c9
              by_cases c19 : t400 = x5_1
              · rw [if_pos c19] at H
                have c19b0 : (t400 == x5_1) = true := beq_iff_eq.mpr c19
                have c19b1 : (t400 != x5_1) = false := bne_eq_false_iff_eq.mpr c19
                clear c19
                by_cases c20 : x6_1.length < 17592186044416
                · rw [if_pos c20] at H
                  have LMc20 := Aside0.mk c20
                  clear c20
                  obtain ⟨y404, hy404⟩ : ∃ y_ : List Int, y_ = (x6_1 ++ [x7_1]) := ⟨_, rfl⟩
                  replace H : (sackbutref03_Most.l0 k1 a0 a1 x5_1 y404 (wrap64 (x7_1 + 1))) = some r := by first | (rw [hy404]; with_reducible exact H) | (have H2_ := (Option.bind_some _ _).symm.trans H; rw [hy404]; with_reducible exact H2_) | (have H2_ := (Option.bind_some _ _).symm.trans H; with_reducible exact H2_) | with_reducible exact H | (rw [hy404]; exact H) | exact H
                  have Ny404 := Aside0.mk hy404
                  clear hy404
                  have H' := Aside0.mk H
                  clear H
                  go_wp2_with (first | ((with_reducible refine gate_callee (f := 35) rfl ?_); refine goesL_ (some 17) rfl rfl Try.func35 (by kernel_rfl) rfl #[.int .i64 a0, .int .i64 x7_1] rfl (by (try simp only [List.map_toArray, List.map_cons, List.map_nil]); first | done | rfl | (simp only [List.length_drop, List.length_take]; rfl)) ?_; (with_reducible refine (sackbutref03_Tones.calls k1 a0 x7_1 t397 _ A6.out).mono ?_); rintro e w21 ⟨v398, rfl, ho0, hb⟩; refine ⟨_, rfl, ?_⟩; have n0_ := Aside0.mk (Kd.R_elder' (by (with_reducible repeat (first | apply Kd.R_alloc | apply Kd.R_drewN | apply Kd.R_drew)); exact HO_6.out) (Kd.R_base ho0) hb); have n1_ := Aside0.mk (Kd.R_lower (Kd.R_new' ho0 (Kd.R_lt (by (with_reducible repeat (first | apply Kd.R_alloc | apply Kd.R_drewN | apply Kd.R_drew)); exact HO_6.out))) (below_size (by repeat (first | (with_reducible first | exact HB.out | apply below_alloc | apply pw_below_drewN | apply below_drew1) | exact HB.out)))); have n2_ := Aside0.mk (below_step (by repeat (first | (with_reducible first | exact HB.out | apply below_alloc | apply pw_below_drewN | apply below_drew1) | exact HB.out)) hb); clear HO_6; clear HB; have HO_6 := n0_; have HO399 := n1_; have HB := n2_; clear n0_ n1_ n2_; (try clear hb); (try clear hb2); (try clear hk); (try clear hi); (try clear ho0); obtain ⟨Ao22, co22, eo22⟩ := Kd.R_slice HO399.out; subst eo22) | ((with_reducible refine gate_callee (f := 17) rfl ?_); refine goesL_ (some 23) rfl rfl Try.func17 (by kernel_rfl) rfl #[.int .i64 a0, .int .i64 x7_1] rfl (by (try simp only [List.map_toArray, List.map_cons, List.map_nil]); first | done | rfl | (simp only [List.length_drop, List.length_take]; rfl)) ?_; (with_reducible refine (sackbutref03_Sum.calls k1 a0 x7_1 t400 _ A8.out).mono ?_); rintro e w23 ⟨rfl, hb⟩; refine ⟨_, rfl, ?_⟩; have n0_ := Aside0.mk (Kd.R_below (by (with_reducible repeat (first | apply Kd.R_alloc | apply Kd.R_drewN | apply Kd.R_drew)); exact HO_6.out) hb); have n1_ := Aside0.mk (Kd.R_below (by (with_reducible repeat (first | apply Kd.R_alloc | apply Kd.R_drewN | apply Kd.R_drew)); exact HO399.out) hb); have n2_ := Aside0.mk (below_step (by repeat (first | (with_reducible first | exact HB.out | apply below_alloc | apply pw_below_drewN | apply below_drew1) | exact HB.out)) hb); clear HO_6; clear HO399; clear HB; have HO_6 := n0_; have HO399 := n1_; have HB := n2_; clear n0_ n1_ n2_; (try clear hb); (try clear hb2); (try clear hk); (try clear hi)) | ((with_reducible refine gate_builtin (b := .append) (xs := #[.tmp 31, .tmp 33]) rfl ?_); at_builtin; refine Kd.R_append (Kd.int .i64) (w0 := w) w.heap.size rfl (.tmp 31) (.tmp 33) 32 3 (.int .i64 0) 8 rfl Try.underlying32 info3 rfl (by decide) (by omega) u6 x6_1 x7_1 [.int .i64 x7_1] (fun k_ => some k_ ≠ (.slice Ao22 t397.length co22 : Value).ownBlock) (fun _ => False) rfl rfl ?aP (fun _ hk => hk.elim) ?aF ?aO ?aB ?aS ?aL ?_; (case aP => exact rfl); (case aB => exact (by repeat (first | (with_reducible first | exact HB.out | apply below_alloc | apply pw_below_drewN | apply below_drew1) | exact HB.out))); (case aF => exact (fun k_ hk => Kd.fresh' (Kd.R_lt (by (with_reducible repeat (first | apply Kd.R_alloc | apply Kd.R_drewN | apply Kd.R_drew)); exact HO399.out)) k_ hk)); (case aO => exact (by (with_reducible repeat (first | apply Kd.R_alloc | apply Kd.R_drewN | apply Kd.R_drew)); exact Kd.R_mono HO_6.out (fun _ hk => hk.2))); (case aS => exact (below_size (by repeat (first | (with_reducible first | exact HB.out | apply below_alloc | apply pw_below_drewN | apply below_drew1) | exact HB.out)))); (case aL => have := LMc20.out; omega); intro v405 w24 ho hb hg hat; rw [← Ny404.out] at ho; have n0_ := Aside0.mk (Kd.R_after (ok := (fun _ => True)) (by (with_reducible repeat (first | apply Kd.R_alloc | apply Kd.R_drewN | apply Kd.R_drew)); exact HO399.out) hg hat); have n1_ := Aside0.mk (hb); have n2_ := Aside0.mk (ho); clear HO399; clear HB; clear HO_6; have HO399 := n0_; have HB := n1_; have HO406 := n2_; clear n0_ n1_ n2_; clear ho hb hg hat))
                  go_roundg k1
                  case measure => have := HK1.out; omega
                  case rel => exact ⟨(x5_1), (y404), (wrap64 (x7_1 + 1)), (by first | rfl | (simp; done) | (simp [*]; done)), (by first | rfl | (simp; done) | (simp [*]; done)), H', ⟨by have := HK1.out; omega⟩, ⟨by (with_reducible repeat (first | apply Kd.R_alloc | apply Kd.R_drewN | apply Kd.R_drew)); exact Kd.R_mono HO406.out (fun _ hk => trivial)⟩, ⟨by repeat (first | (with_reducible first | exact HB.out | apply below_alloc | apply pw_below_drewN | apply below_drew1) | exact HB.out)⟩⟩
                · rw [if_neg c20] at H
                  exact absurd H (by simp)
              · rw [if_neg c19] at H
                have c19b0 : (t400 == x5_1) = false := beq_eq_false_iff_ne.mpr c19
                have c19b1 : (t400 != x5_1) = true := bne_iff_ne.mpr c19
                have H' := Aside0.mk H
                clear H
                go_wp2_with (first | ((with_reducible refine gate_callee (f := 35) rfl ?_); refine goesL_ (some 17) rfl rfl Try.func35 (by kernel_rfl) rfl #[.int .i64 a0, .int .i64 x7_1] rfl (by (try simp only [List.map_toArray, List.map_cons, List.map_nil]); first | done | rfl | (simp only [List.length_drop, List.length_take]; rfl)) ?_; (with_reducible refine (sackbutref03_Tones.calls k1 a0 x7_1 t397 _ A6.out).mono ?_); rintro e w25 ⟨v398, rfl, ho0, hb⟩; refine ⟨_, rfl, ?_⟩; have n0_ := Aside0.mk (Kd.R_elder' (by (with_reducible repeat (first | apply Kd.R_alloc | apply Kd.R_drewN | apply Kd.R_drew)); exact HO_6.out) (Kd.R_base ho0) hb); have n1_ := Aside0.mk (Kd.R_lower (Kd.R_new' ho0 (Kd.R_lt (by (with_reducible repeat (first | apply Kd.R_alloc | apply Kd.R_drewN | apply Kd.R_drew)); exact HO_6.out))) (below_size (by repeat (first | (with_reducible first | exact HB.out | apply below_alloc | apply pw_below_drewN | apply below_drew1) | exact HB.out)))); have n2_ := Aside0.mk (below_step (by repeat (first | (with_reducible first | exact HB.out | apply below_alloc | apply pw_below_drewN | apply below_drew1) | exact HB.out)) hb); clear HO_6; clear HB; have HO_6 := n0_; have HO399 := n1_; have HB := n2_; clear n0_ n1_ n2_; (try clear hb); (try clear hb2); (try clear hk); (try clear hi); (try clear ho0); obtain ⟨Ao26, co26, eo26⟩ := Kd.R_slice HO399.out; subst eo26) | ((with_reducible refine gate_callee (f := 17) rfl ?_); refine goesL_ (some 23) rfl rfl Try.func17 (by kernel_rfl) rfl #[.int .i64 a0, .int .i64 x7_1] rfl (by (try simp only [List.map_toArray, List.map_cons, List.map_nil]); first | done | rfl | (simp only [List.length_drop, List.length_take]; rfl)) ?_; (with_reducible refine (sackbutref03_Sum.calls k1 a0 x7_1 t400 _ A8.out).mono ?_); rintro e w27 ⟨rfl, hb⟩; refine ⟨_, rfl, ?_⟩; have n0_ := Aside0.mk (Kd.R_below (by (with_reducible repeat (first | apply Kd.R_alloc | apply Kd.R_drewN | apply Kd.R_drew)); exact HO_6.out) hb); have n1_ := Aside0.mk (Kd.R_below (by (with_reducible repeat (first | apply Kd.R_alloc | apply Kd.R_drewN | apply Kd.R_drew)); exact HO399.out) hb); have n2_ := Aside0.mk (below_step (by repeat (first | (with_reducible first | exact HB.out | apply below_alloc | apply pw_below_drewN | apply below_drew1) | exact HB.out)) hb); clear HO_6; clear HO399; clear HB; have HO_6 := n0_; have HO399 := n1_; have HB := n2_; clear n0_ n1_ n2_; (try clear hb); (try clear hb2); (try clear hk); (try clear hi)))
                go_roundg k1
                case measure => have := HK1.out; omega
                case rel => exact ⟨(x5_1), (x6_1), (wrap64 (x7_1 + 1)), (by first | rfl | (simp; done) | (simp [*]; done)), (by first | rfl | (simp; done) | (simp [*]; done)), H', ⟨by have := HK1.out; omega⟩, ⟨by (with_reducible repeat (first | apply Kd.R_alloc | apply Kd.R_drewN | apply Kd.R_drew)); exact Kd.R_mono HO_6.out (fun _ hk => trivial)⟩, ⟨by repeat (first | (with_reducible first | exact HB.out | apply below_alloc | apply pw_below_drewN | apply below_drew1) | exact HB.out)⟩⟩
          · rw [if_neg c7] at H
            have c7b0 : ((t397.length : Int) == a1) = false := beq_eq_false_iff_ne.mpr c7
            have c7b1 : ((t397.length : Int) != a1) = true := bne_iff_ne.mpr c7
            have H' := Aside0.mk H
            clear H
            go_wp2_with (first | ((with_reducible refine gate_callee (f := 35) rfl ?_); refine goesL_ (some 17) rfl rfl Try.func35 (by kernel_rfl) rfl #[.int .i64 a0, .int .i64 x7_1] rfl (by (try simp only [List.map_toArray, List.map_cons, List.map_nil]); first | done | rfl | (simp only [List.length_drop, List.length_take]; rfl)) ?_; (with_reducible refine (sackbutref03_Tones.calls k1 a0 x7_1 t397 _ A6.out).mono ?_); rintro e w28 ⟨v398, rfl, ho0, hb⟩; refine ⟨_, rfl, ?_⟩; have n0_ := Aside0.mk (Kd.R_elder' (by (with_reducible repeat (first | apply Kd.R_alloc | apply Kd.R_drewN | apply Kd.R_drew)); exact HO_6.out) (Kd.R_base ho0) hb); have n1_ := Aside0.mk (Kd.R_lower (Kd.R_new' ho0 (Kd.R_lt (by (with_reducible repeat (first | apply Kd.R_alloc | apply Kd.R_drewN | apply Kd.R_drew)); exact HO_6.out))) (below_size (by repeat (first | (with_reducible first | exact HB.out | apply below_alloc | apply pw_below_drewN | apply below_drew1) | exact HB.out)))); have n2_ := Aside0.mk (below_step (by repeat (first | (with_reducible first | exact HB.out | apply below_alloc | apply pw_below_drewN | apply below_drew1) | exact HB.out)) hb); clear HO_6; clear HB; have HO_6 := n0_; have HO399 := n1_; have HB := n2_; clear n0_ n1_ n2_; (try clear hb); (try clear hb2); (try clear hk); (try clear hi); (try clear ho0); obtain ⟨Ao29, co29, eo29⟩ := Kd.R_slice HO399.out; subst eo29))
            go_roundg k1
            case measure => have := HK1.out; omega
            case rel => exact ⟨(x5_1), (x6_1), (wrap64 (x7_1 + 1)), (by first | rfl | (simp; done) | (simp [*]; done)), (by first | rfl | (simp; done) | (simp [*]; done)), H', ⟨by have := HK1.out; omega⟩, ⟨by (with_reducible repeat (first | apply Kd.R_alloc | apply Kd.R_drewN | apply Kd.R_drew)); exact Kd.R_mono HO_6.out (fun _ hk => trivial)⟩, ⟨by repeat (first | (with_reducible first | exact HB.out | apply below_alloc | apply pw_below_drewN | apply below_drew1) | exact HB.out)⟩⟩
        · rw [if_neg c5] at H
          have c5b0 : decide (x7_1 < (ji4)) = false := decide_eq_false c5
          clear c5
          obtain rfl := Option.some.inj H
          go_wp2
          go_ret
          exact ⟨_, by first | rfl | (simp [errW_none, errW_some] <;> rfl) | (simp only [← hji4]; first | rfl | (simp [errW_none, errW_some] <;> rfl)) | (simp [*, errW_none, errW_some] <;> rfl), by (with_reducible repeat (first | apply Kd.R_alloc | apply Kd.R_drewN | apply Kd.R_drew)); exact HO_6.out, by repeat (first | (with_reducible first | exact HB.out | apply below_alloc | apply pw_below_drewN | apply below_drew1) | exact HB.out)⟩
      · rw [if_neg c3] at H
        exact absurd H (by simp)

/-! ### sackbutref03_List: function 40 -/
def sackbutref03_List.l0 : Nat → Int → Int → List Int → Int → Option (List Int)
  | 0, _, _, _, _ => none
  | k + 1, x0, x1, x5, x6 => if 0 ≤ x0 then (if x6 < (shl .i64 1 x0) then ((sackbutref03_Tones.f k x0 x6).bind fun t407 => (if (t407.length : Int) = x1 then ((sackbutref03_Even.f k x0 x6).bind fun t410 => (if t410 = true then (if x5.length < 17592186044416 then (sackbutref03_List.l0 k x0 x1 (x5 ++ [x6]) (wrap64 (x6 + 1))) else (none)) else (sackbutref03_List.l0 k x0 x1 x5 (wrap64 (x6 + 1))))) else (sackbutref03_List.l0 k x0 x1 x5 (wrap64 (x6 + 1))))) else (some x5)) else (none)
def sackbutref03_List.f (k : Nat) (a0 : Int) (a1 : Int) : Option (List Int) := sackbutref03_List.l0 k a0 a1 ([] : List Int) 1
theorem sackbutref03_List.mono_l : ∀ k, (∀ y0 y1 y2 y3, LeO (sackbutref03_List.l0 k y0 y1 y2 y3) (sackbutref03_List.l0 (k + 1) y0 y1 y2 y3))
  | 0 => fun _ _ _ _ r h => by simp [sackbutref03_List.l0] at h
  | k + 1 => by
    have ih0 := sackbutref03_List.mono_l k
    · intro y0 y1 y2 y3
      unfold sackbutref03_List.l0
      repeat' first
      | (with_reducible exact ih0 _ _ _ _)
      | (with_reducible exact sackbutref03_Even.mono _ _ _)
      | (with_reducible exact sackbutref03_Tones.mono _ _ _)
      | (with_reducible exact LeO.refl _)
      | (with_reducible exact LeO.none _)
      | (with_reducible refine LeO.ite ?_ ?_)
      | (with_reducible refine LeO.bind ?_ (fun _ => ?_))
      | exact ih0 _ _ _ _
      | exact sackbutref03_Even.mono _ _ _
      | exact sackbutref03_Tones.mono _ _ _
      | exact LeO.none _
      | refine LeO.ite ?_ ?_
      | refine LeO.bind ?_ (fun _ => ?_)
theorem sackbutref03_List.mono : ∀ a0 a1 k, LeO (sackbutref03_List.f k a0 a1) (sackbutref03_List.f (k + 1) a0 a1) := by
  intro a0 a1 k
  have ih0 := sackbutref03_List.mono_l k
  unfold sackbutref03_List.f
  repeat' first
      | (with_reducible exact ih0 _ _ _ _)
      | (with_reducible exact sackbutref03_Even.mono _ _ _)
      | (with_reducible exact sackbutref03_Tones.mono _ _ _)
      | (with_reducible exact LeO.refl _)
      | (with_reducible exact LeO.none _)
      | (with_reducible refine LeO.ite ?_ ?_)
      | (with_reducible refine LeO.bind ?_ (fun _ => ?_))
      | exact ih0 _ _ _ _
      | exact sackbutref03_Even.mono _ _ _
      | exact sackbutref03_Tones.mono _ _ _
      | exact LeO.none _
      | refine LeO.ite ?_ ?_
      | refine LeO.bind ?_ (fun _ => ?_)
set_option maxHeartbeats 8000000 in
set_option maxRecDepth 100000 in
theorem sackbutref03_List.calls (k : Nat) (a0 : Int) (a1 : Int) (r : List Int) (w : World) (h : sackbutref03_List.f k a0 a1 = some r) :
    Calls Try.prog 40 #[.int .i64 a0, .int .i64 a1] w fun e w' => ∃ v0_ : Value, e = .returned (v0_) ∧ Kd.R (Kd.int .i64) 3 w' w.heap.size (fun _ => True) v0_ r ∧ Below w.heap.size w w' := by
  have HB := Aside0.mk (Below.refl w.heap.size w)
  have H : (sackbutref03_List.l0 k a0 a1 ([] : List Int) 1) = some r := h
  clear h
  have H' := Aside0.mk H
  clear H
  go_enter Try.func40, Try.ntmps40
  go_wp2
  go_loopg [5, 6] k (fun kq v5 v6 w' => ∃ (x5_1 : List Int) (x6_1 : Int), v6 = .int .i64 x6_1 ∧ Aside0 (sackbutref03_List.l0 kq a0 a1 x5_1 x6_1 = some r) ∧ Aside0 (kq ≤ k) ∧ Aside0 (Kd.R (Kd.int .i64) 3 w' w.heap.size (fun _ => True) v5 x5_1) ∧ Aside0 (Below w.heap.size w w'))
  case atStart => exact ⟨(([] : List Int)), (1), (by first | rfl | (simp; done) | (simp [*]; done)), H', ⟨Nat.le_refl _⟩, ⟨by first | exact Kd.R_nil _ _ _ _ _ | exact Kd.N_nil _ _ _ _ _ | exact Kd.V_nil _ _ _ _ _ | exact Kd.Q_nil _ _ _ _ _ | exact Kd.S_nil _ _ _ _ _⟩, ⟨by repeat (first | (with_reducible first | exact HB.out | apply below_alloc | apply pw_below_drewN | apply below_drew1) | exact HB.out)⟩⟩
  case round =>
    clear H'
    try clear p2
    obtain ⟨x5_1, x6_1, rfl, HA, HK1, HO_5, HB⟩ := hrel
    cases gk with
    | zero => exact absurd HA.out (by simp [sackbutref03_List.l0])
    | succ k1 =>
      have H := HA.out
      clear HA
      simp only [sackbutref03_List.l0] at H
      by_cases c3 : 0 ≤ a0
      · rw [if_pos c3] at H
        have c3b0 := eq_true c3
        have c3b1 : decide (0 ≤ a0) = true := decide_eq_true c3
        clear c3
        obtain ⟨ji4, hji4⟩ : ∃ j_ : Int, (shl .i64 1 a0) = j_ := ⟨_, rfl⟩
        replace H : (if x6_1 < (ji4) then ((sackbutref03_Tones.f k1 a0 x6_1).bind fun t407 => (if (t407.length : Int) = a1 then ((sackbutref03_Even.f k1 a0 x6_1).bind fun t410 => (if t410 = true then (if x5_1.length < 17592186044416 then (sackbutref03_List.l0 k1 a0 a1 (x5_1 ++ [x6_1]) (wrap64 (x6_1 + 1))) else (none)) else (sackbutref03_List.l0 k1 a0 a1 x5_1 (wrap64 (x6_1 + 1))))) else (sackbutref03_List.l0 k1 a0 a1 x5_1 (wrap64 (x6_1 + 1))))) else (some x5_1)) = some r := by first | (rw [hji4] at H; exact H) | (simp only [hji4] at H ⊢; exact H)
        have hji4_ : (IntKind.i64.wrap (1 * 2 ^ min a0.toNat 64)) = ji4 := hji4
        have hji4z : a0 ≤ 64 → (IntKind.i64.wrap (1 * 2 ^ a0.toNat)) = ji4 := shl_small hji4
        have hji4u : (IntKind.i64.wrap (2 ^ min a0.toNat 64)) = ji4 := by have h_ := hji4_; rw [Int.one_mul] at h_; exact h_
        have hji4v : a0 ≤ 64 → (IntKind.i64.wrap (2 ^ a0.toNat)) = ji4 := fun hle_ => by have h_ := hji4z hle_; rw [Int.one_mul] at h_; exact h_
        have hji4y : (wrap64 (1 * 2 ^ min a0.toNat 64)) = ji4 := (i64_w _).symm.trans hji4_
        have hji4x : a0 ≤ 64 → (wrap64 (1 * 2 ^ a0.toNat)) = ji4 := fun h_ => (i64_w _).symm.trans (hji4z h_)
        by_cases c5 : x6_1 < (ji4)
        · rw [if_pos c5] at H
          have c5b0 : decide (x6_1 < (ji4)) = true := decide_eq_true c5
          clear c5
          replace H := Option.bind_eq_some_iff.mp H
          obtain ⟨t407, A60, H⟩ := H
          replace H : (if (t407.length : Int) = a1 then ((sackbutref03_Even.f k1 a0 x6_1).bind fun t410 => (if t410 = true then (if x5_1.length < 17592186044416 then (sackbutref03_List.l0 k1 a0 a1 (x5_1 ++ [x6_1]) (wrap64 (x6_1 + 1))) else (none)) else (sackbutref03_List.l0 k1 a0 a1 x5_1 (wrap64 (x6_1 + 1))))) else (sackbutref03_List.l0 k1 a0 a1 x5_1 (wrap64 (x6_1 + 1)))) = some r := H
          have A6 := Aside0.mk A60
          clear A60
          by_cases c7 : (t407.length : Int) = a1
          · rw [if_pos c7] at H
            have c7b0 : ((t407.length : Int) == a1) = true := beq_iff_eq.mpr c7
            have c7b1 : ((t407.length : Int) != a1) = false := bne_eq_false_iff_eq.mpr c7
            clear c7
            replace H := Option.bind_eq_some_iff.mp H
            obtain ⟨t410, A80, H⟩ := H
            replace H : (if t410 = true then (if x5_1.length < 17592186044416 then (sackbutref03_List.l0 k1 a0 a1 (x5_1 ++ [x6_1]) (wrap64 (x6_1 + 1))) else (none)) else (sackbutref03_List.l0 k1 a0 a1 x5_1 (wrap64 (x6_1 + 1)))) = some r := H
            have A8 := Aside0.mk A80
            clear A80
            by_cases c9 : t410 = true
            · subst c9
              have H1 : (if x5_1.length < 17592186044416 then (sackbutref03_List.l0 k1 a0 a1 (x5_1 ++ [x6_1]) (wrap64 (x6_1 + 1))) else (none)) = some r := by rw [if_pos rfl] at H; exact H
              clear H
              have H := H1
              clear H1
              by_cases c10 : x5_1.length < 17592186044416
              · rw [if_pos c10] at H
                have LMc10 := Aside0.mk c10
                clear c10
                obtain ⟨y411, hy411⟩ : ∃ y_ : List Int, y_ = (x5_1 ++ [x6_1]) := ⟨_, rfl⟩
                replace H : (sackbutref03_List.l0 k1 a0 a1 y411 (wrap64 (x6_1 + 1))) = some r := by first | (rw [hy411]; with_reducible exact H) | (have H2_ := (Option.bind_some _ _).symm.trans H; rw [hy411]; with_reducible exact H2_) | (have H2_ := (Option.bind_some _ _).symm.trans H; with_reducible exact H2_) | with_reducible exact H | (rw [hy411]; exact H) | exact H
                have Ny411 := Aside0.mk hy411
                clear hy411
                have H' := Aside0.mk H
                clear H
                go_wp2_with (first | ((with_reducible refine gate_callee (f := 35) rfl ?_); refine goesL_ (some 15) rfl rfl Try.func35 (by kernel_rfl) rfl #[.int .i64 a0, .int .i64 x6_1] rfl (by (try simp only [List.map_toArray, List.map_cons, List.map_nil]); first | done | rfl | (simp only [List.length_drop, List.length_take]; rfl)) ?_; (with_reducible refine (sackbutref03_Tones.calls k1 a0 x6_1 t407 _ A6.out).mono ?_); rintro e w11 ⟨v408, rfl, ho0, hb⟩; refine ⟨_, rfl, ?_⟩; have n0_ := Aside0.mk (Kd.R_elder' (by (with_reducible repeat (first | apply Kd.R_alloc | apply Kd.R_drewN | apply Kd.R_drew)); exact HO_5.out) (Kd.R_base ho0) hb); have n1_ := Aside0.mk (Kd.R_lower (Kd.R_new' ho0 (Kd.R_lt (by (with_reducible repeat (first | apply Kd.R_alloc | apply Kd.R_drewN | apply Kd.R_drew)); exact HO_5.out))) (below_size (by repeat (first | (with_reducible first | exact HB.out | apply below_alloc | apply pw_below_drewN | apply below_drew1) | exact HB.out)))); have n2_ := Aside0.mk (below_step (by repeat (first | (with_reducible first | exact HB.out | apply below_alloc | apply pw_below_drewN | apply below_drew1) | exact HB.out)) hb); clear HO_5; clear HB; have HO_5 := n0_; have HO409 := n1_; have HB := n2_; clear n0_ n1_ n2_; (try clear hb); (try clear hb2); (try clear hk); (try clear hi); (try clear ho0); obtain ⟨Ao12, co12, eo12⟩ := Kd.R_slice HO409.out; subst eo12) | (go_at_call 33; (with_reducible refine (sackbutref03_Even.calls k1 a0 x6_1 true _ A8.out).mono ?_); rintro e w13 ⟨rfl, hb⟩; have n0_ := Aside0.mk (Kd.R_below (by (with_reducible repeat (first | apply Kd.R_alloc | apply Kd.R_drewN | apply Kd.R_drew)); exact HO_5.out) hb); have n1_ := Aside0.mk (Kd.R_below (by (with_reducible repeat (first | apply Kd.R_alloc | apply Kd.R_drewN | apply Kd.R_drew)); exact HO409.out) hb); have n2_ := Aside0.mk (below_step (by repeat (first | (with_reducible first | exact HB.out | apply below_alloc | apply pw_below_drewN | apply below_drew1) | exact HB.out)) hb); clear HO_5; clear HO409; clear HB; have HO_5 := n0_; have HO409 := n1_; have HB := n2_; clear n0_ n1_ n2_; (try clear hb); (try clear hb2); (try clear hk); (try clear hi)) | ((with_reducible refine gate_builtin (b := .append) (xs := #[.tmp 24, .tmp 26]) rfl ?_); at_builtin; refine Kd.R_append (Kd.int .i64) (w0 := w) w.heap.size rfl (.tmp 24) (.tmp 26) 32 3 (.int .i64 0) 8 rfl Try.underlying32 info3 rfl (by decide) (by omega) u5 x5_1 x6_1 [.int .i64 x6_1] (fun k_ => some k_ ≠ (.slice Ao12 t407.length co12 : Value).ownBlock) (fun _ => False) rfl rfl ?aP (fun _ hk => hk.elim) ?aF ?aO ?aB ?aS ?aL ?_; (case aP => exact rfl); (case aB => exact (by repeat (first | (with_reducible first | exact HB.out | apply below_alloc | apply pw_below_drewN | apply below_drew1) | exact HB.out))); (case aF => exact (fun k_ hk => Kd.fresh' (Kd.R_lt (by (with_reducible repeat (first | apply Kd.R_alloc | apply Kd.R_drewN | apply Kd.R_drew)); exact HO409.out)) k_ hk)); (case aO => exact (by (with_reducible repeat (first | apply Kd.R_alloc | apply Kd.R_drewN | apply Kd.R_drew)); exact Kd.R_mono HO_5.out (fun _ hk => hk.2))); (case aS => exact (below_size (by repeat (first | (with_reducible first | exact HB.out | apply below_alloc | apply pw_below_drewN | apply below_drew1) | exact HB.out)))); (case aL => have := LMc10.out; omega); intro v412 w14 ho hb hg hat; rw [← Ny411.out] at ho; have n0_ := Aside0.mk (Kd.R_after (ok := (fun _ => True)) (by (with_reducible repeat (first | apply Kd.R_alloc | apply Kd.R_drewN | apply Kd.R_drew)); exact HO409.out) hg hat); have n1_ := Aside0.mk (hb); have n2_ := Aside0.mk (ho); clear HO409; clear HB; clear HO_5; have HO409 := n0_; have HB := n1_; have HO413 := n2_; clear n0_ n1_ n2_; clear ho hb hg hat))
                go_roundg k1
                case measure => have := HK1.out; omega
                case rel => exact ⟨(y411), (wrap64 (x6_1 + 1)), (by first | rfl | (simp; done) | (simp [*]; done)), H', ⟨by have := HK1.out; omega⟩, ⟨by (with_reducible repeat (first | apply Kd.R_alloc | apply Kd.R_drewN | apply Kd.R_drew)); exact Kd.R_mono HO413.out (fun _ hk => trivial)⟩, ⟨by repeat (first | (with_reducible first | exact HB.out | apply below_alloc | apply pw_below_drewN | apply below_drew1) | exact HB.out)⟩⟩
              · rw [if_neg c10] at H
                exact absurd H (by simp)
            · replace c9 := Bool.eq_false_iff.mpr c9
              subst c9
              have H1 : (sackbutref03_List.l0 k1 a0 a1 x5_1 (wrap64 (x6_1 + 1))) = some r := by rw [if_neg (show ¬ (false = true) by decide)] at H; exact H
              clear H
              have H := H1
              clear H1
              have H' := Aside0.mk H
              clear H
              go_wp2_with (first | ((with_reducible refine gate_callee (f := 35) rfl ?_); refine goesL_ (some 15) rfl rfl Try.func35 (by kernel_rfl) rfl #[.int .i64 a0, .int .i64 x6_1] rfl (by (try simp only [List.map_toArray, List.map_cons, List.map_nil]); first | done | rfl | (simp only [List.length_drop, List.length_take]; rfl)) ?_; (with_reducible refine (sackbutref03_Tones.calls k1 a0 x6_1 t407 _ A6.out).mono ?_); rintro e w15 ⟨v408, rfl, ho0, hb⟩; refine ⟨_, rfl, ?_⟩; have n0_ := Aside0.mk (Kd.R_elder' (by (with_reducible repeat (first | apply Kd.R_alloc | apply Kd.R_drewN | apply Kd.R_drew)); exact HO_5.out) (Kd.R_base ho0) hb); have n1_ := Aside0.mk (Kd.R_lower (Kd.R_new' ho0 (Kd.R_lt (by (with_reducible repeat (first | apply Kd.R_alloc | apply Kd.R_drewN | apply Kd.R_drew)); exact HO_5.out))) (below_size (by repeat (first | (with_reducible first | exact HB.out | apply below_alloc | apply pw_below_drewN | apply below_drew1) | exact HB.out)))); have n2_ := Aside0.mk (below_step (by repeat (first | (with_reducible first | exact HB.out | apply below_alloc | apply pw_below_drewN | apply below_drew1) | exact HB.out)) hb); clear HO_5; clear HB; have HO_5 := n0_; have HO409 := n1_; have HB := n2_; clear n0_ n1_ n2_; (try clear hb); (try clear hb2); (try clear hk); (try clear hi); (try clear ho0); obtain ⟨Ao16, co16, eo16⟩ := Kd.R_slice HO409.out; subst eo16) | (go_at_call 33; (with_reducible refine (sackbutref03_Even.calls k1 a0 x6_1 false _ A8.out).mono ?_); rintro e w17 ⟨rfl, hb⟩; have n0_ := Aside0.mk (Kd.R_below (by (with_reducible repeat (first | apply Kd.R_alloc | apply Kd.R_drewN | apply Kd.R_drew)); exact HO_5.out) hb); have n1_ := Aside0.mk (Kd.R_below (by (with_reducible repeat (first | apply Kd.R_alloc | apply Kd.R_drewN | apply Kd.R_drew)); exact HO409.out) hb); have n2_ := Aside0.mk (below_step (by repeat (first | (with_reducible first | exact HB.out | apply below_alloc | apply pw_below_drewN | apply below_drew1) | exact HB.out)) hb); clear HO_5; clear HO409; clear HB; have HO_5 := n0_; have HO409 := n1_; have HB := n2_; clear n0_ n1_ n2_; (try clear hb); (try clear hb2); (try clear hk); (try clear hi)))
              go_roundg k1
              case measure => have := HK1.out; omega
              case rel => exact ⟨(x5_1), (wrap64 (x6_1 + 1)), (by first | rfl | (simp; done) | (simp [*]; done)), H', ⟨by have := HK1.out; omega⟩, ⟨by (with_reducible repeat (first | apply Kd.R_alloc | apply Kd.R_drewN | apply Kd.R_drew)); exact Kd.R_mono HO_5.out (fun _ hk => trivial)⟩, ⟨by repeat (first | (with_reducible first | exact HB.out | apply below_alloc | apply pw_below_drewN | apply below_drew1) | exact HB.out)⟩⟩
          · rw [if_neg c7] at H
            have c7b0 : ((t407.length : Int) == a1) = false := beq_eq_false_iff_ne.mpr c7
            have c7b1 : ((t407.length : Int) != a1) = true := bne_iff_ne.mpr c7
            have H' := Aside0.mk H
            clear H
            go_wp2_with (first | ((with_reducible refine gate_callee (f := 35) rfl ?_); refine goesL_ (some 15) rfl rfl Try.func35 (by kernel_rfl) rfl #[.int .i64 a0, .int .i64 x6_1] rfl (by (try simp only [List.map_toArray, List.map_cons, List.map_nil]); first | done | rfl | (simp only [List.length_drop, List.length_take]; rfl)) ?_; (with_reducible refine (sackbutref03_Tones.calls k1 a0 x6_1 t407 _ A6.out).mono ?_); rintro e w18 ⟨v408, rfl, ho0, hb⟩; refine ⟨_, rfl, ?_⟩; have n0_ := Aside0.mk (Kd.R_elder' (by (with_reducible repeat (first | apply Kd.R_alloc | apply Kd.R_drewN | apply Kd.R_drew)); exact HO_5.out) (Kd.R_base ho0) hb); have n1_ := Aside0.mk (Kd.R_lower (Kd.R_new' ho0 (Kd.R_lt (by (with_reducible repeat (first | apply Kd.R_alloc | apply Kd.R_drewN | apply Kd.R_drew)); exact HO_5.out))) (below_size (by repeat (first | (with_reducible first | exact HB.out | apply below_alloc | apply pw_below_drewN | apply below_drew1) | exact HB.out)))); have n2_ := Aside0.mk (below_step (by repeat (first | (with_reducible first | exact HB.out | apply below_alloc | apply pw_below_drewN | apply below_drew1) | exact HB.out)) hb); clear HO_5; clear HB; have HO_5 := n0_; have HO409 := n1_; have HB := n2_; clear n0_ n1_ n2_; (try clear hb); (try clear hb2); (try clear hk); (try clear hi); (try clear ho0); obtain ⟨Ao19, co19, eo19⟩ := Kd.R_slice HO409.out; subst eo19))
            go_roundg k1
            case measure => have := HK1.out; omega
            case rel => exact ⟨(x5_1), (wrap64 (x6_1 + 1)), (by first | rfl | (simp; done) | (simp [*]; done)), H', ⟨by have := HK1.out; omega⟩, ⟨by (with_reducible repeat (first | apply Kd.R_alloc | apply Kd.R_drewN | apply Kd.R_drew)); exact Kd.R_mono HO_5.out (fun _ hk => trivial)⟩, ⟨by repeat (first | (with_reducible first | exact HB.out | apply below_alloc | apply pw_below_drewN | apply below_drew1) | exact HB.out)⟩⟩
        · rw [if_neg c5] at H
          have c5b0 : decide (x6_1 < (ji4)) = false := decide_eq_false c5
          clear c5
          obtain rfl := Option.some.inj H
          go_wp2
          go_ret
          exact ⟨_, by first | rfl | (simp [errW_none, errW_some] <;> rfl) | (simp only [← hji4]; first | rfl | (simp [errW_none, errW_some] <;> rfl)) | (simp [*, errW_none, errW_some] <;> rfl), by (with_reducible repeat (first | apply Kd.R_alloc | apply Kd.R_drewN | apply Kd.R_drew)); exact HO_5.out, by repeat (first | (with_reducible first | exact HB.out | apply below_alloc | apply pw_below_drewN | apply below_drew1) | exact HB.out)⟩
      · rw [if_neg c3] at H
        exact absurd H (by simp)

end Go.Proofs.Ythbcdmbicfmeaaa.P
