-- Written by this session's program (wip/tools/myprint.py) out of the translation.
import Derived.Test.YthbcdmbicfmeaaaP0
import Derived.Test.YthbcdmbicfmeaaaP1
import Derived.Test.YthbcdmbicfmeaaaP5
import Derived.Test.YthbcdmbicfmeaaaP6
import Derived.LoopIn
import Derived.LoopNIn
import Derived.OwnWalkIn
import Derived.RangeFuncBound
import Derived.RangeFuncBox
import Derived.RangeFuncCalls
import Derived.RangeFuncLeaves
import Derived.RangeFuncNested
import Derived.Shelf.Abstract
import Derived.Shelf.AbstractIn
import Derived.Shelf.RegionOpen
import Derived.Sort.BigQuietIn
import Derived.Sort.QuietIn
import Derived.TacticsInMore
import Derived.Test.YthbcdmbicfmeaaaQuiet
import Derived.Test.YthbcdmbicfmeaaaRange
import Derived.Test.YthbcdmbicfmeaaaRange2
import Derived.WalkKit
namespace Go.Proofs.Ythbcdmbicfmeaaa.P
open Go.RowKit Go.Proofs.YthbcdmbicfmeaaaW.PrintWords Go.Proofs.YthbcdmbicfmeaaaW.PrintLast Go.Proofs.YthbcdmbicfmeaaaW.PrintMore
attribute [local go_sem] max2_int min2_int max_two min_two max_three min_three max_four min_four   -- for this text's walks alone
set_option linter.unusedVariables false
set_option linter.unusedSimpArgs false

/-! ### even_List: function 38 (our own proof) -/
-- extern even_List: function 38: kinds ['i64', 'i64']: results ['sl3:i64', 'i64']
section
open Go.Shelf
attribute [local go_sem] Oper.semAt_some
/-- All scales with so many tones, of the sets from s on, d of them: the set, and what 'read' makes of it. -/
def even_scales.from (k : Nat) (n kk : Int) : Nat → Nat → Option (List (Int × Int × List Int))
  | _, 0 => some []
  | s, d + 1 => (even_read.f k n (s : Int)).bind fun b => (even_scales.from k n kk (s + 1) d).bind fun zs => some (if (b.2.1.length : Int) = kk then ((s : Int), b.1, b.2.1) :: zs else zs)
theorem even_scales.from_mono (n kk : Int) : ∀ (d s k : Nat), LeO (even_scales.from k n kk s d) (even_scales.from (k + 1) n kk s d)
  | 0, _, _ => LeO.refl _
  | d + 1, s, k => LeO.bind (even_read.mono _ _ _) (fun _ => LeO.bind (even_scales.from_mono n kk d (s + 1) k) (fun _ => LeO.refl _))

/-- The two boxes lie as they lay. -/
def keepsTwo (b1 b2 : Nat) (A B : World) : Prop := B.heap[b1]? = A.heap[b1]? ∧ B.heap[b2]? = A.heap[b2]?
/-- One value of the iterator: the set, the scale, and the value that is handed. -/
abbrev Scales := (Int × Int × List Int) × (Option Addr × Nat)
def scaleAt (zs : List (Int × Int × List Int)) (pre : List Scales) (x : Scales) (W : World) : Prop :=
  zs[pre.length]? = some x.1 ∧ x.1.2.2.length ≤ x.2.2 ∧ Kd.C (Kd.int .i64) W x.2.1 x.1.2.2.length x.1.2.2
set_option maxHeartbeats 2000000 in
set_option maxRecDepth 100000 in
theorem scales_iter (m : Nat) (k : Nat) (n kk : Int) (N : Nat) (hN0 : 1 ≤ N) (hN : N < 2 ^ 62) (hn : 0 ≤ n) (hsh : wrap64 (2 ^ min n.toNat 64) = (N : Int)) (zs : List (Int × Int × List Int)) (hz : even_scales.from k n kk 1 (N - 1) = some zs) (b1 b2 : Nat) (w0 : World)
    (h1 : w0.heap[b1]? = some (.cells #[.int .i64 n] 3 (0, 0))) (h2 : w0.heap[b2]? = some (.cells #[.int .i64 kk] 3 (0, 0))) :
    Range.Iter Try.prog m 64 #[] #[.pointer (some ⟨b1, 0, none⟩), .pointer (some ⟨b2, 0, none⟩)] (fun (x : Scales) => #[.int .i64 x.1.1, .agg #[.int .i64 x.1.2.1, .slice x.2.1 x.1.2.2.length x.2.2]]) (keepsTwo b1 b2) (scaleAt zs) (fun xs => xs.map (·.1) = zs) (fun _ => True) w0 := by
  intro l J Jx W hW hJ hJx hY h0
  refine (callsIn_wide (n := m + 1)).1 ?_
  refine callsIn_of_wp Try.func64 rfl trivial ?_ rfl
  simp only [Try.ntmps64, List.size_toArray, List.length_cons, List.length_nil, Nat.reduceAdd, Nat.reduceSub, Array.replicate_succ, Array.replicate_zero, List.push_toArray, List.append_toArray, List.nil_append, List.cons_append]
  gi_wp2
  gi_loopw [4] (fun p wr => ∃ (s d : Nat) (pre : List Scales) (zs' : List (Int × Int × List Int)), p = .int .i64 (s : Int) ∧ s + d = N ∧ 1 ≤ s ∧ Aside0 (even_scales.from k n kk s d = some zs') ∧ Aside0 (zs = pre.map (·.1) ++ zs') ∧ Aside0 (J pre wr) ∧ Aside0 (wr.heap[b1]? = some (.cells #[.int .i64 n] 3 (0, 0))) ∧ Aside0 (wr.heap[b2]? = some (.cells #[.int .i64 kk] 3 (0, 0)))) (fun p _ => N - (intOf p).toNat)
  case atStart =>
    exact ⟨1, N - 1, [], zs, rfl, by omega, by omega, ⟨hz⟩, ⟨rfl⟩, ⟨h0⟩, ⟨Range.block_below h1 hW⟩, ⟨Range.block_below h2 hW⟩⟩
  case round =>
    obtain ⟨s, d, pre, zs', rfl, hsd, hs1, hfrom, hzs, hJp, hB1, hB2⟩ := hrel
    have hc1 : wr.cell? ⟨b1, 0, none⟩ = some (.int .i64 n) := (blk_cell hB1.out 0).trans rfl
    have hc2 : wr.cell? ⟨b2, 0, none⟩ = some (.int .i64 kk) := (blk_cell hB2.out 0).trans rfl
    by_cases hlt : s < N
    · obtain ⟨d, rfl⟩ : ∃ d', d = d' + 1 := ⟨d - 1, by omega⟩
      obtain ⟨⟨r1, r2, r3⟩, hrd, hz2⟩ := Option.bind_eq_some_iff.1 (show (even_read.f k n (s : Int)).bind (fun b => (even_scales.from k n kk (s + 1) d).bind fun zs => some (if (b.2.1.length : Int) = kk then ((s : Int), b.1, b.2.1) :: zs else zs)) = some zs' from hfrom.out)
      obtain ⟨zs2, hfrom2, hz3⟩ := Option.bind_eq_some_iff.1 hz2
      have hz4 := Option.some.inj hz3
      have HZ := Aside0.mk hz4
      have HF := Aside0.mk hfrom2
      have Hrd := Aside0.mk hrd
      clear hfrom hz2 hz3 hz4 hfrom2 hrd
      have hdec : decide ((s : Int) < wrap64 (2 ^ min n.toNat 64)) = true := decide_eq_true (by omega)
      gi_wp2_with fail
      refine ⟨trivial, ?_⟩
      gi_at_call 45
      refine (callsIn_wide.2 (even_read.calls k n s r1 r2 r3 _ Hrd.out)).mono ?_
      rintro e w' ⟨v, rfl, hR0, hb0⟩
      have hR := Aside0.mk hR0
      have hb := Aside0.mk hb0
      clear hR0 hb0
      obtain ⟨A', c', hv0, hl0, hC0⟩ := Kd.R_reads hR.out
      subst hv0
      have hC' := Aside0.mk hC0
      have hl' := Aside0.mk hl0
      clear hC0 hl0
      have hBa : Below w'.heap.size w' (w'.alloc (.cells #[.int .i64 r1, .slice A' r2.length c'] 47)) := (Below.refl _ w').alloc (Nat.le_refl _) _
      have hB1' := Aside0.mk (Range.block_below hB1.out hb.out)
      have hB2' := Aside0.mk (Range.block_below hB2.out hb.out)
      have hc1' : w'.cell? ⟨b1, 0, none⟩ = some (.int .i64 n) := (blk_cell hB1'.out 0).trans rfl
      have hc2' : w'.cell? ⟨b2, 0, none⟩ = some (.int .i64 kk) := (blk_cell hB2'.out 0).trans rfl
      have hn1 : ¬ w'.heap.size = b1 := by have := (Array.getElem?_eq_some_iff.1 hB1'.out).1; omega
      have hn2 : ¬ w'.heap.size = b2 := by have := (Array.getElem?_eq_some_iff.1 hB2'.out).1; omega
      have hm1 : ¬ b1 = w'.heap.size := by omega
      have hm2 : ¬ b2 = w'.heap.size := by omega
      have HBa := Aside0.mk hBa
      have HA1 := Aside0.mk (Range.block_below hB1'.out hBa)
      have HA2 := Aside0.mk (Range.block_below hB2'.out hBa)
      have ha2 : (w'.alloc (.cells #[.int .i64 r1, .slice A' r2.length c'] 47)).cell? ⟨b2, 0, none⟩ = some (.int .i64 kk) := (blk_cell HA2.out 0).trans rfl
      have hJ' := Aside0.mk (hJ _ _ _ (hJ _ _ _ hJp.out hb.out) hBa)
      clear hBa
      by_cases hk : (r2.length : Int) = kk
      · have hkb : ((r2.length : Int) == kk) = true := by simpa using hk
        have hz5 : zs = pre.map (·.1) ++ (((s : Int), r1, r2) :: zs2) := by
          have := HZ.out
          rw [if_pos hk] at this
          rw [this]
          exact hzs.out
        have Hz5 := Aside0.mk hz5
        have hat : scaleAt zs pre (((s : Int), r1, r2), (A', c')) (w'.alloc (.cells #[.int .i64 r1, .slice A' r2.length c'] 47)) := by
          refine ⟨?_, hl'.out, Kd.C_below hC'.out HBa.out⟩
          rw [hz5, List.getElem?_append_right (by simp)]
          simp
        obtain ⟨fn, tmps, assign, body, hy, hRd0⟩ := hY pre ((s, r1, r2), (A', c')) (w'.alloc (.cells #[.int .i64 r1, .slice A' r2.length c'] 47)) hJ'.out hat
        dsimp only at hy
        have hRd := Aside0.mk hRd0
        clear hRd0 hat hz5
        gi_wp2_with fail
        clear hy
        refine hRd.out.mono ?_
        rintro e W3 (⟨rfl, hJ3, hk3⟩ | ⟨rfl, hJ3⟩)
        · have hJ3' := Aside0.mk hJ3
          have hb3 := Aside0.mk (hk3.1.trans HA1.out)
          have hb4 := Aside0.mk (hk3.2.trans HA2.out)
          clear hJ3 hk3
          gi_wp2
          go_roundw
          case rel => exact ⟨s + 1, d, pre ++ [(((s : Int), r1, r2), (A', c'))], zs2, rfl, by omega, by omega, HF, ⟨by rw [Hz5.out]; simp⟩, hJ3', hb3, hb4⟩
          case measure => simp [intOf]; omega
        · have hJ3' := Aside0.mk hJ3
          clear hJ3
          gi_wp2
          refine bodyPost_ret (results_none rfl _ _ _) rfl ?_
          exact ⟨⟨_, rfl⟩, .inr ⟨_, trivial, hJ3'.out⟩⟩
      · have hkb : ((r2.length : Int) == kk) = false := by simpa using hk
        have hz5 : zs = pre.map (·.1) ++ zs2 := by
          have := HZ.out
          rw [if_neg hk] at this
          rw [this]
          exact hzs.out
        have Hz5 := Aside0.mk hz5
        clear hz5
        gi_wp2_with fail
        refine And.intro (fun f h => (nomatch h)) ?_
        gi_wp2_with fail
        go_roundw
        case rel => exact ⟨s + 1, d, pre, zs2, rfl, by omega, by omega, HF, Hz5, hJ', HA1, HA2⟩
        case measure => simp [intOf]; omega
    · have hdec : decide ((s : Int) < wrap64 (2 ^ min n.toNat 64)) = false := decide_eq_false (by omega)
      gi_wp2_with fail
      go_end0
      have hd0 : d = 0 := by omega
      subst hd0
      have := Option.some.inj hfrom.out
      exact ⟨⟨_, rfl⟩, .inl ⟨pre, by rw [hzs.out, ← this, List.append_nil], hJp.out⟩⟩
set_option maxHeartbeats 2000000 in
set_option maxRecDepth 100000 in
theorem scales_calls (n kk : Int) (w : World) : Calls Try.prog 56 #[.int .i64 n, .int .i64 kk] w fun e w' => ∃ b1 b2, e = .returned (.func (.func 64) #[] #[.pointer (some ⟨b1, 0, none⟩), .pointer (some ⟨b2, 0, none⟩)]) ∧ w'.heap[b1]? = some (.cells #[.int .i64 n] 3 (0, 0)) ∧ w'.heap[b2]? = some (.cells #[.int .i64 kk] 3 (0, 0)) ∧ w.heap.size ≤ b1 ∧ w.heap.size ≤ b2 ∧ Below w.heap.size w w' := by
  refine (callsIn_wide (n := 1)).1 ?_
  refine callsIn_of_wp Try.func56 rfl trivial ?_ rfl
  simp only [Try.ntmps56, List.size_toArray, List.length_cons, List.length_nil, Nat.reduceAdd, Nat.reduceSub, Array.replicate_succ, Array.replicate_zero, List.push_toArray, List.append_toArray, List.nil_append, List.cons_append]
  gi_wp2
  refine bodyPost_ret (by simp [results, Try.results56, go_sem]; rfl) rfl ?_
  refine ⟨w.heap.size, w.heap.size + 1, rfl, blk_alloc (World.alloc_heap_new w _) _, ?_, Nat.le_refl _, by omega, ((Below.refl _ w).alloc (Nat.le_refl _) _).alloc (by simp) _⟩
  have := World.alloc_heap_new (w.alloc (.cells #[.int .i64 n] 3)) (.cells #[.int .i64 kk] 3)
  rwa [World.size_alloc] at this
end
/-- The sets of the even ones. -/
def even_List.pick (k : Nat) : List (Int × Int × List Int) → Option (List Int)
  | [] => some []
  | z :: zs => (even_scale_even.f k z.2.1 z.2.2).bind fun b => (even_List.pick k zs).bind fun l => some (if b = true then z.1 :: l else l)
theorem even_List.pick_mono : ∀ (zs : List (Int × Int × List Int)) (k : Nat), LeO (even_List.pick k zs) (even_List.pick (k + 1) zs)
  | [], _ => LeO.refl _
  | z :: zs, k => LeO.bind (even_scale_even.mono _ _ _) (fun _ => LeO.bind (even_List.pick_mono zs k) (fun _ => LeO.refl _))
def even_List.f (k : Nat) (a0 a1 : Int) : Option (List Int × Int) := if 2 ≤ a0 ∧ a0 ≤ 16 ∧ 1 ≤ a1 ∧ a1 ≤ a0 then (even_scales.from k a0 a1 1 (2 ^ a0.toNat - 1)).bind fun zs => (even_List.pick k zs).bind fun l => some (l, 0) else some ([], 2)
theorem even_List.mono : ∀ a0 a1 k, LeO (even_List.f k a0 a1) (even_List.f (k + 1) a0 a1) := fun a0 a1 k => LeO.ite (LeO.bind (even_scales.from_mono _ _ _ _ _) (fun _ => LeO.bind (even_List.pick_mono _ _) (fun _ => LeO.refl _))) (LeO.refl _)
section
open Go.Shelf
attribute [local go_sem] Oper.semAt_some
theorem even_scales.from_length (k : Nat) (n kk : Int) : ∀ (d s : Nat) (zs : List (Int × Int × List Int)), even_scales.from k n kk s d = some zs → zs.length ≤ d
  | 0, s, zs, h => by
    obtain rfl := Option.some.inj h
    simp
  | d + 1, s, zs, h => by
    obtain ⟨b, _, h⟩ := Option.bind_eq_some_iff.1 h
    obtain ⟨zs', h1, h⟩ := Option.bind_eq_some_iff.1 h
    have := even_scales.from_length k n kk d (s + 1) zs' h1
    obtain rfl := Option.some.inj h
    split
    · simp; omega
    · omega
theorem circle_f (n : Int) : even_isCircle.f n = some (decide (2 ≤ n ∧ n ≤ 16)) := by
  unfold even_isCircle.f
  by_cases h1 : 2 ≤ n
  · rw [if_pos h1]; simp [h1]
  · rw [if_neg h1]; simp [h1]
theorem own_lower {W : World} {b0 b1 : Nat} {e : TypeId} {size : Nat} {v : Value} {k : Nat} {xs : List Value} (h : W.ownsRow b1 e size v k xs) (hb : b0 ≤ b1) : W.ownsRow b0 e size v k xs := by
  rcases h.2 with h0 | ⟨g, cap, cur, h1, h2, h3⟩
  · exact ⟨h.1, .inl h0⟩
  · exact ⟨h.1, .inr ⟨g, cap, cur, h1, Nat.le_trans hb h2, h3⟩⟩
theorem own_below {A B : World} {b0 : Nat} {e : TypeId} {size : Nat} {v : Value} {k : Nat} {xs : List Value} (h : A.ownsRow b0 e size v k xs) (hb : Below A.heap.size A B) : B.ownsRow b0 e size v k xs := by
  refine h.kept (row := none) ⟨hb.os, hb.tape, hb.output, hb.size, fun k hk _ => hb.block k hk⟩ ?_
  rcases h.2 with ⟨rfl, _⟩ | ⟨g, cap, cur, rfl, _⟩
  · exact .inl rfl
  · exact .inr (by simp [Value.ownBlock])
theorem own_noted {A B : World} {b0 n : Nat} {e : TypeId} {size : Nat} {v : Value} {k : Nat} {xs : List Value} (h : A.ownsRow b0 e size v k xs) (hn : Range.Noted n A B) : B.ownsRow b0 e size v k xs := by
  obtain ⟨l, o, o', hl, ho, hc, rfl⟩ := hn
  exact ownsRow_putObj h o' ho hc
theorem Boxed.below {A B : World} {b t : Nat} {v : Value} (h : Boxed A b t v) (hb : Below A.heap.size A B) : Boxed B b t v := Range.block_below h hb
theorem own_away {W : World} {b0 g : Nat} {e : TypeId} {size : Nat} {v : Value} {k : Nat} {xs : List Value} (h : W.ownsRow b0 e size v k xs) (hg : g < b0) : some g ≠ v.ownBlock := by
  rcases h.2 with ⟨rfl, _⟩ | ⟨g', cap, cur, rfl, hb, _⟩
  · simp [Value.ownBlock]
  · simp [Value.ownBlock]; omega
/-- Which are even, as the program tells it. -/
def even_List.good (k : Nat) (z : Int × Int × List Int) : Bool := even_scale_even.f k z.2.1 z.2.2 == some true
def even_List.sel (k : Nat) (zs : List (Int × Int × List Int)) : List Int := (zs.filter (even_List.good k)).map (·.1)
theorem even_List.sel_append (k : Nat) (zs : List (Int × Int × List Int)) (z : Int × Int × List Int) : even_List.sel k (zs ++ [z]) = even_List.sel k zs ++ (if even_List.good k z = true then [z.1] else []) := by
  unfold even_List.sel
  rw [List.filter_append, List.map_append]
  congr 1
  by_cases h : even_List.good k z = true
  · simp [h]
  · simp [h]
theorem even_List.pick_sel (k : Nat) : ∀ (zs : List (Int × Int × List Int)) (l : List Int), even_List.pick k zs = some l → l = even_List.sel k zs ∧ ∀ z, z ∈ zs → ∃ b, even_scale_even.f k z.2.1 z.2.2 = some b
  | [], l, h => by
    obtain rfl := Option.some.inj h
    exact ⟨rfl, fun z hz => by simp at hz⟩
  | z :: zs, l, h => by
    obtain ⟨b, hb, h⟩ := Option.bind_eq_some_iff.1 h
    obtain ⟨l', hl, h⟩ := Option.bind_eq_some_iff.1 h
    obtain ⟨h1, h2⟩ := even_List.pick_sel k zs l' hl
    obtain rfl := Option.some.inj h
    subst h1
    refine ⟨?_, fun y hy => ?_⟩
    · unfold even_List.sel
      cases b with
      | true => simp [even_List.good, hb]
      | false => simp [even_List.good, hb]
    · rcases List.mem_cons.1 hy with rfl | hy
      · exact ⟨b, hb⟩
      · exact h2 y hy
set_option maxHeartbeats 4000000 in
set_option maxRecDepth 100000 in
theorem even_List.calls (k : Nat) (a0 : Int) (a1 : Int) (r1 : List Int) (r2 : Int) (w : World) (h : even_List.f k a0 a1 = some (r1, r2)) :
    Calls Try.prog 38 #[.int .i64 a0, .int .i64 a1] w fun e w' => ∃ v0_ : Value, e = .returned (.tuple #[v0_, .int .i64 r2]) ∧ Kd.R (Kd.int .i64) 3 w' w.heap.size (fun _ => True) v0_ r1 ∧ Below w.heap.size w w' := by
  have hci := Aside0.mk (circle_f a0)
  refine (callsIn_wide (n := 5)).1 ?_
  refine callsIn_of_wp_marks Try.func38 rfl trivial ?_ rfl
  simp only [Try.ntmps38, List.size_toArray, List.length_cons, List.length_nil, Nat.reduceAdd, Nat.reduceSub, Array.replicate_succ, Array.replicate_zero, List.push_toArray, List.append_toArray, List.nil_append, List.cons_append]
  by_cases hv : 2 ≤ a0 ∧ a0 ≤ 16 ∧ 1 ≤ a1 ∧ a1 ≤ a0
  · rw [even_List.f, if_pos hv] at h
    obtain ⟨zs, hz, h⟩ := Option.bind_eq_some_iff.1 h
    obtain ⟨l, hl, h⟩ := Option.bind_eq_some_iff.1 h
    obtain ⟨rfl, rfl⟩ : l = r1 ∧ (0 : Int) = r2 := by simpa using h
    have HL := Aside0.mk hl
    have HZ := Aside0.mk hz
    clear h hl hz
    have d1 : decide (2 ≤ a0 ∧ a0 ≤ 16) = true := decide_eq_true ⟨hv.1, hv.2.1⟩
    have d2 : decide (a1 < 1) = false := decide_eq_false (by omega)
    have d3 : decide (a0 < a1) = false := decide_eq_false (by omega)
    gi_wp2_with (refine ⟨trivial, ?_⟩; gi_at_call 47; refine (callsIn_wide.2 (even_isCircle.calls a0 _ _ hci.out)).mono ?_; rintro e w' ⟨rfl, ⟨nd, rfl⟩⟩)
    refine ⟨trivial, ?_⟩
    refine (callsIn_wide.2 (scales_calls a0 a1 _)).mono ?_
    rintro e w' ⟨b1, b2, rfl, hb1, hb2, hg1, hg2, hbel⟩
    have HB1 := Aside0.mk hb1
    have HB2 := Aside0.mk hb2
    have HBel := Aside0.mk hbel
    clear hb1 hb2 hbel
    gi_wp2
    obtain ⟨hsel, hall⟩ := even_List.pick_sel k zs l HL.out
    have HSel := Aside0.mk hsel
    have HAll := Aside0.mk hall
    have hzl := even_scales.from_length k a0 a1 _ _ zs HZ.out
    have hp16 : 2 ^ a0.toNat ≤ 65536 := Nat.le_trans (Nat.pow_le_pow_right (n := 2) (by decide) (show a0.toNat ≤ 16 by omega)) (by decide)
    have HzL := Aside0.mk (show zs.length ≤ 65536 by omega)
    obtain ⟨i0, hi, hz0, hz1, hz2⟩ := info_parts (show (Try.prog.info? 3).map (fun i => (i.zero, i.size, i.bytes)) = some (some (.int .i64 0), 1, 8) by kernel_rfl)
    have hpos : 1 ≤ 2 ^ a0.toNat := Nat.two_pow_pos _
    have hshl : wrap64 (2 ^ min a0.toNat 64) = ((2 ^ a0.toNat : Nat) : Int) := by
      rw [Nat.min_eq_left (by omega)]
      have : (2 ^ a0.toNat : Int) = ((2 ^ a0.toNat : Nat) : Int) := by simp
      rw [this]
      unfold wrap64
      omega
    have hws : (w.drewN nd).heap.size = w.heap.size := rfl
    simp at hg1 hg2
    have HB0 : Below w.heap.size w w' := ((pw_below_drewN (Below.refl _ w) nd).alloc (by simp) _).trans (HBel.out.mono (by simp))
    have HBox : Boxed w' w.heap.size 32 (.slice none 0 0) := Boxed.below (Boxed.new (w.drewN nd) 32 (.slice none 0 0)) HBel.out
    have hlt1 := (Array.getElem?_eq_some_iff.1 HB1.out).1
    have hlt2 := (Array.getElem?_eq_some_iff.1 HB2.out).1
    clear hsel hall hzl
    refine Range.wp_range_at (gf := 64) (fst := #[]) (lb := #[.pointer (some ⟨b1, 0, none⟩), .pointer (some ⟨b2, 0, none⟩)]) rfl (enters_of Try.func64 (by kernel_rfl) rfl)
      (scales_iter 3 k a0 a1 (2 ^ a0.toNat) hpos (by omega) (by omega) hshl zs HZ.out b1 b2 w' HB1.out HB2.out) (Below.refl _ _) (fun h k => ⟨k.1.trans h.1, k.2.trans h.2⟩)
      (fun h => by
        obtain ⟨l, o, o', hl, ho, hc, rfl⟩ := h
        exact ⟨World.putObj_heap_other (by omega), World.putObj_heap_other (by omega)⟩) (fun _ => rfl)
      (fun pre W => pre.map (·.1) = zs.take pre.length ∧ (∃ v, Boxed W w.heap.size 32 v ∧ W.ownsRow w'.heap.size 3 1 v (even_List.sel k (pre.map (·.1))).length ((even_List.sel k (pre.map (·.1))).map (Value.int .i64))) ∧ W.heap[b1]? = some (.cells #[.int .i64 a0] 3 (0, 0)) ∧ W.heap[b2]? = some (.cells #[.int .i64 a1] 3 (0, 0)) ∧ w'.heap.size ≤ W.heap.size ∧ Below w.heap.size w W)
      (fun _ _ _ => False)
      (fun s A B h hb => ⟨h.1, by obtain ⟨v, h1, h2⟩ := h.2.1; exact ⟨v, Boxed.below h1 hb, own_below h2 hb⟩, Range.block_below h.2.2.1 hb, Range.block_below h.2.2.2.1 hb, Nat.le_trans h.2.2.2.2.1 hb.size, h.2.2.2.2.2.trans (hb.mono h.2.2.2.2.2.size)⟩)
      (fun s A B h hb => ⟨h.1, by obtain ⟨v, h1, h2⟩ := h.2.1; exact ⟨v, Range.block_noted h1 (by omega) hb, own_noted h2 hb⟩, Range.block_noted h.2.2.1 (by omega) hb, Range.block_noted h.2.2.2.1 (by omega) hb, by (obtain ⟨l, o, o', hl, ho, hc, rfl⟩ := hb; simpa using h.2.2.2.2.1), Range.below_noted h.2.2.2.2.2 (by omega) (Nat.le_refl _) hb⟩)
      (fun _ _ _ _ h _ => h) (fun _ _ _ _ h _ => h)
      ⟨rfl, ⟨_, HBox, World.ownsRow_nil _ _ _ _⟩, HB1.out, HB2.out, Nat.le_refl _, HB0⟩
      (fun x W => { tmps := #[.int .i64 a0, .int .i64 a1, undef, undef, .slice none 0 0, .int .i64 0, .pointer (some ⟨w.heap.size, 0, none⟩), .int .i64 x.1.1, .pointer (some ⟨W.heap.size, 0, none⟩), .int .i64 a0, .bool true, .bool false, .bool false, .int .i64 a1, .bool false, .bool false, .bool false, .int .i64 a1, .int .i64 a0, .bool false, .bool false, .int .i64 a0, .int .i64 a1, .func (.func 64) #[] #[.pointer (some ⟨b1, 0, none⟩), .pointer (some ⟨b2, 0, none⟩)], .int .i64 x.1.1, .agg #[.int .i64 x.1.2.1, .slice x.2.1 x.1.2.2.length x.2.2], undef, undef, undef, undef, undef, undef, undef], defers := [] })
      (fun x W => W.alloc (.cells #[.int .i64 x.1.2.1, .slice x.2.1 x.1.2.2.length x.2.2] 47)) (fun x W => (Below.refl _ W).alloc (Nat.le_refl _) _)
      (fun pre x W h => ⟨Below.heap_alloc _ _ _ (by have := (Array.getElem?_eq_some_iff.1 h.2.2.1).1; omega), Below.heap_alloc _ _ _ (by have := (Array.getElem?_eq_some_iff.1 h.2.2.2.1).1; omega)⟩)
      ?assign ?body ?done ?stop
    case assign =>
      intro l x W K hK
      gi_wp2
      exact hK
    case body =>
      rintro l pre ⟨⟨s, m, t⟩, A, c⟩ W W' hi_ ⟨hzx, hlc, hC0⟩ hno ⟨hp, ⟨v, hv, hrow⟩, hb1, hb2, hge, hbel⟩
      dsimp only at hzx hlc hC0 hno
      have hbox : W'.heap[W.heap.size]? = some (.cells #[.int .i64 m, .slice A t.length c] 47 (0, 0)) := (Range.KeepsCells.of_noted hno).2 _ _ (World.alloc_heap_new W _) rfl
      have hC' : Kd.C (Kd.int .i64) W' A t.length t := (Range.KeepsCells.of_noted hno).reads (Kd.C_below hC0 ((Below.refl _ W).alloc (Nat.le_refl _) _))
      obtain ⟨b, hb⟩ := HAll.out (s, m, t) (List.mem_of_getElem? hzx)
      have hcz0 : W'.cell? ⟨W.heap.size, 0, none⟩ = some (.int .i64 m) := (blk_cell hbox 0).trans rfl
      have hcz1 : W'.cell? ⟨W.heap.size, 1, none⟩ = some (.slice A t.length c) := (blk_cell hbox 1).trans rfl
      have HP := Aside0.mk hp
      have HZx := Aside0.mk hzx
      have hpl : (even_List.sel k (pre.map (·.1))).length ≤ 65536 := by
        have h1 : (even_List.sel k (pre.map (·.1))).length ≤ (pre.map (·.1)).length := by
          unfold even_List.sel
          rw [List.length_map]
          exact List.length_filter_le _ _
        have h2 : (pre.map (·.1)).length ≤ zs.length := by rw [hp, List.length_take]; omega
        have := HzL.out
        omega
      clear hi_ hp hzx
      gi_wp2_with fail
      refine ⟨trivial, ?_⟩
      refine (CallsIn.inRound l (callsIn_wide.2 (even_scale_even.calls k m A c t b W' hC' hlc hb))).mono ?_
      rintro e W2 ⟨rfl, hbw⟩
      have hv2 := Boxed.below hv hbw
      have hrow2 := own_below hrow hbw
      have hb12 := Range.block_below hb1 hbw
      have hb22 := Range.block_below hb2 hbw
      have hge2 := Nat.le_trans hge hbw.size
      have hbel2 := hbel.trans (hbw.mono hbel.size)
      have hko : KeepsOthers W' W2 := ⟨hbw.size, fun i o h _ => (hbw.block i (Array.getElem?_eq_some_iff.1 h).1).trans h⟩
      have snoc : (pre ++ [(((s, m, t), A, c) : Scales)]).map (·.1) = zs.take (pre ++ [(((s, m, t), A, c) : Scales)]).length := by
        have hpl2 : pre.length < zs.length := (List.getElem?_eq_some_iff.1 HZx.out).1
        have e := (List.getElem?_eq_some_iff.1 HZx.out).2
        rw [List.length_append, List.length_singleton, List.map_append, HP.out, List.take_succ_eq_append_getElem hpl2, e]
        rfl
      cases b with
      | true =>
        have hgood : even_List.good k (s, m, t) = true := by simp [even_List.good, hb]
        have hc := hv2.cell
        gi_wp2_with (gi_at_builtin; go_loud (refine wpListIn_append_own _ rfl _ _ 32 rfl w'.heap.size 3 i0 (.int .i64 0) 1 8 Try.underlying32 hi hz0 hz1 hz2 rfl (by decide) _ _ _ rfl (hrow2.alloc _) ⟨W2.heap.size, 0, none⟩ 1 1 [.int .i64 s] rfl rfl (cell_one_new _ _ _) (by simp [Value.oneCell']) (by unfold maxLen; omega) (by omega) (by simp; omega) ?_; intro v' w1 hown' hgrow _; obtain ⟨g', cap', rfl⟩ := ownsRow_succ hown'; obtain ⟨hv1, hv3, hr3, hk3, hb3⟩ := hv2.appended (by decide) (own_lower hrow2 HB0.size) (Nat.le_trans HB0.size hge2) (Nat.le_refl _) (own_lower hown' HB0.size) hgrow; have hc1 := hv1.cell; have hf1 := hv1.frozen))
        have stay : ∀ b, w.heap.size < b → b < w'.heap.size → (w1.setCell ⟨w.heap.size, 0, none⟩ (.slice (some ⟨g', 0, none⟩) ((even_List.sel k (pre.map (·.1))).length + 1) cap')).heap[b]? = W'.heap[b]? := fun b h1 h2 =>
          (Below.heap_setCell w1 ⟨w.heap.size, 0, none⟩ _ b (by simp; omega)).trans ((hgrow.block b (by simp; omega) (own_away hrow2 h2)).trans ((Below.heap_alloc _ _ _ (by omega)).trans (hbw.block b (by omega))))
        have s1 := stay b1 (by omega) hlt1
        have s2 := stay b2 (by omega) hlt2
        have hsz3 := hb3.size
        refine ⟨hko.trans hk3, ⟨s1, s2⟩, snoc, ⟨_, hv3, ?_⟩, s1.trans hb1, s2.trans hb2, by omega, hbel2.trans hb3⟩
        rw [List.map_append, List.map_cons, List.map_nil, even_List.sel_append, if_pos hgood, List.map_append, List.length_append]
        exact hown'.kept (grownBy_setCell' w1 w.heap.size _) (.inr (hv1.not_row (by decide) (own_lower hown' HB0.size)).symm)
      | false =>
        have hgood : ¬ even_List.good k (s, m, t) = true := by simp [even_List.good, hb]
        gi_wp2_with fail
        refine ⟨hko, ⟨hbw.block b1 (by omega), hbw.block b2 (by omega)⟩, snoc, ⟨_, hv2, ?_⟩, hb12, hb22, hge2, hbel2⟩
        rw [List.map_append, List.map_cons, List.map_nil, even_List.sel_append, if_neg hgood, List.append_nil]
        exact hrow2
    case done =>
      rintro D xs W hD hS ⟨hp, ⟨v, hv, hrow⟩, hb1, hb2, hge, hbel⟩ hK
      have hc := hv.cell
      have hl2 : l = even_List.sel k (xs.map (·.1)) := by rw [hS]; exact HSel.out
      gi_wp2_with fail
      refine ⟨by simp, .inl ⟨_, _, rfl, run_takeDeferred hK, ?_⟩⟩
      have hD' : w'.heap.size ≤ D := hD
      have hrow3 := ownsRow_putObj (own_lower hrow HB0.size) (.deferred none) hK rfl
      refine ⟨.tuple #[v, .int .i64 0], by simp [results, Try.results38, go_sem], v, rfl, ?_, ?_⟩
      · rw [hS] at hrow3
        exact Kd.R_of_own hrow3 (fun _ _ => trivial)
      · exact hbel.grown (grownBy_putObj' _ D _) hbel.size (fun k e => by cases e; omega)
    case stop =>
      rintro D c pre W _ _ h _
      exact h.elim
  · rw [even_List.f, if_neg hv] at h
    obtain ⟨rfl, rfl⟩ : [] = r1 ∧ (2 : Int) = r2 := by simpa using h
    by_cases c1 : 2 ≤ a0 ∧ a0 ≤ 16
    · have d1 : decide (2 ≤ a0 ∧ a0 ≤ 16) = true := decide_eq_true c1
      by_cases c2 : a1 < 1
      · have d2 : decide (a1 < 1) = true := decide_eq_true c2
        gi_wp2_with (refine ⟨trivial, ?_⟩; gi_at_call 47; refine (callsIn_wide.2 (even_isCircle.calls a0 _ _ hci.out)).mono ?_; rintro e w' ⟨rfl, ⟨nd, rfl⟩⟩)
        exact ⟨.tuple #[.slice none 0 0, .int .i64 2], by simp [results, Try.results38, go_sem], _, rfl, Kd.R_nil _ _ _ _ _, pw_below_drewN (Below.refl _ _) _⟩
      · have d2 : decide (a1 < 1) = false := decide_eq_false c2
        have d3 : decide (a0 < a1) = true := decide_eq_true (by omega)
        gi_wp2_with (refine ⟨trivial, ?_⟩; gi_at_call 47; refine (callsIn_wide.2 (even_isCircle.calls a0 _ _ hci.out)).mono ?_; rintro e w' ⟨rfl, ⟨nd, rfl⟩⟩)
        exact ⟨.tuple #[.slice none 0 0, .int .i64 2], by simp [results, Try.results38, go_sem], _, rfl, Kd.R_nil _ _ _ _ _, pw_below_drewN (Below.refl _ _) _⟩
    · have d1 : decide (2 ≤ a0 ∧ a0 ≤ 16) = false := decide_eq_false c1
      gi_wp2_with (refine ⟨trivial, ?_⟩; gi_at_call 47; refine (callsIn_wide.2 (even_isCircle.calls a0 _ _ hci.out)).mono ?_; rintro e w' ⟨rfl, ⟨nd, rfl⟩⟩)
      exact ⟨.tuple #[.slice none 0 0, .int .i64 2], by simp [results, Try.results38, go_sem], _, rfl, Kd.R_nil _ _ _ _ _, pw_below_drewN (Below.refl _ _) _⟩
end

/-! ### cmp_Compare_int: function 57 -/
def cmp_Compare_int.f (a0 : Int) (a1 : Int) : Option (Int) := (cmp_isNaN_int.f a0).bind fun t395 => ((cmp_isNaN_int.f a1).bind fun t396 => (if t395 = true then (if t396 = true then (some 0) else (some (-1))) else (if t396 = true then (some 1) else (if a0 < a1 then (some (-1)) else (if a0 > a1 then (some 1) else (some 0))))))
set_option maxHeartbeats 8000000 in
set_option maxRecDepth 100000 in
theorem cmp_Compare_int.calls (a0 : Int) (a1 : Int) (r : Int) (w : World) (h : cmp_Compare_int.f a0 a1 = some r) :
    Calls Try.prog 57 #[.int .i64 a0, .int .i64 a1] w fun e w' => e = .returned (.int .i64 r) ∧ Drawn0 w w' := by
  have H : ((cmp_isNaN_int.f a0).bind fun t395 => ((cmp_isNaN_int.f a1).bind fun t396 => (if t395 = true then (if t396 = true then (some 0) else (some (-1))) else (if t396 = true then (some 1) else (if a0 < a1 then (some (-1)) else (if a0 > a1 then (some 1) else (some 0))))))) = some r := h
  clear h
  replace H := Option.bind_eq_some_iff.mp H
  obtain ⟨t395, A30, H⟩ := H
  replace H : ((cmp_isNaN_int.f a1).bind fun t396 => (if t395 = true then (if t396 = true then (some 0) else (some (-1))) else (if t396 = true then (some 1) else (if a0 < a1 then (some (-1)) else (if a0 > a1 then (some 1) else (some 0)))))) = some r := H
  have A3 := Aside0.mk A30
  clear A30
  replace H := Option.bind_eq_some_iff.mp H
  obtain ⟨t396, A40, H⟩ := H
  replace H : (if t395 = true then (if t396 = true then (some 0) else (some (-1))) else (if t396 = true then (some 1) else (if a0 < a1 then (some (-1)) else (if a0 > a1 then (some 1) else (some 0))))) = some r := H
  have A4 := Aside0.mk A40
  clear A40
  by_cases c5 : t395 = true
  · subst c5
    have H1 : (if t396 = true then (some 0) else (some (-1))) = some r := by rw [if_pos rfl] at H; exact H
    clear H
    have H := H1
    clear H1
    by_cases c6 : t396 = true
    · subst c6
      have H1 : (some 0) = some r := by rw [if_pos rfl] at H; exact H
      clear H
      have H := H1
      clear H1
      obtain rfl := Option.some.inj H
      go_enter Try.func57, Try.ntmps57
      go_wp2_with (first | ((with_reducible refine gate_callee (f := 65) rfl ?_); refine goesL_ (some 8) rfl rfl Try.func65 (by kernel_rfl) rfl #[.int .i64 a0] rfl (by (try simp only [List.map_toArray, List.map_cons, List.map_nil]); first | done | rfl | (simp only [List.length_drop, List.length_take]; rfl)) ?_; (with_reducible refine (cmp_isNaN_int.calls a0 true _ A3.out).mono ?_); rintro e w' ⟨rfl, ⟨nd, rfl⟩⟩; refine ⟨_, rfl, ?_⟩) | ((with_reducible refine gate_callee (f := 65) rfl ?_); refine goesL_ (some 10) rfl rfl Try.func65 (by kernel_rfl) rfl #[.int .i64 a1] rfl (by (try simp only [List.map_toArray, List.map_cons, List.map_nil]); first | done | rfl | (simp only [List.length_drop, List.length_take]; rfl)) ?_; (with_reducible refine (cmp_isNaN_int.calls a1 true _ A4.out).mono ?_); rintro e w' ⟨rfl, ⟨nd, rfl⟩⟩; refine ⟨_, rfl, ?_⟩))
      go_ret
      exact ⟨by first | rfl | (simp; done) | (simp [*]; done), by repeat (first | exact Drawn0.refl _ | apply Drawn0.step)⟩
    · replace c6 := Bool.eq_false_iff.mpr c6
      subst c6
      have H1 : (some (-1)) = some r := by rw [if_neg (show ¬ (false = true) by decide)] at H; exact H
      clear H
      have H := H1
      clear H1
      obtain rfl := Option.some.inj H
      go_enter Try.func57, Try.ntmps57
      go_wp2_with (first | ((with_reducible refine gate_callee (f := 65) rfl ?_); refine goesL_ (some 8) rfl rfl Try.func65 (by kernel_rfl) rfl #[.int .i64 a0] rfl (by (try simp only [List.map_toArray, List.map_cons, List.map_nil]); first | done | rfl | (simp only [List.length_drop, List.length_take]; rfl)) ?_; (with_reducible refine (cmp_isNaN_int.calls a0 true _ A3.out).mono ?_); rintro e w' ⟨rfl, ⟨nd, rfl⟩⟩; refine ⟨_, rfl, ?_⟩) | ((with_reducible refine gate_callee (f := 65) rfl ?_); refine goesL_ (some 10) rfl rfl Try.func65 (by kernel_rfl) rfl #[.int .i64 a1] rfl (by (try simp only [List.map_toArray, List.map_cons, List.map_nil]); first | done | rfl | (simp only [List.length_drop, List.length_take]; rfl)) ?_; (with_reducible refine (cmp_isNaN_int.calls a1 false _ A4.out).mono ?_); rintro e w' ⟨rfl, ⟨nd, rfl⟩⟩; refine ⟨_, rfl, ?_⟩))
      go_ret
      exact ⟨by first | rfl | (simp; done) | (simp [*]; done), by repeat (first | exact Drawn0.refl _ | apply Drawn0.step)⟩
  · replace c5 := Bool.eq_false_iff.mpr c5
    subst c5
    have H1 : (if t396 = true then (some 1) else (if a0 < a1 then (some (-1)) else (if a0 > a1 then (some 1) else (some 0)))) = some r := by rw [if_neg (show ¬ (false = true) by decide)] at H; exact H
    clear H
    have H := H1
    clear H1
    by_cases c7 : t396 = true
    · subst c7
      have H1 : (some 1) = some r := by rw [if_pos rfl] at H; exact H
      clear H
      have H := H1
      clear H1
      obtain rfl := Option.some.inj H
      go_enter Try.func57, Try.ntmps57
      go_wp2_with (first | ((with_reducible refine gate_callee (f := 65) rfl ?_); refine goesL_ (some 8) rfl rfl Try.func65 (by kernel_rfl) rfl #[.int .i64 a0] rfl (by (try simp only [List.map_toArray, List.map_cons, List.map_nil]); first | done | rfl | (simp only [List.length_drop, List.length_take]; rfl)) ?_; (with_reducible refine (cmp_isNaN_int.calls a0 false _ A3.out).mono ?_); rintro e w' ⟨rfl, ⟨nd, rfl⟩⟩; refine ⟨_, rfl, ?_⟩) | ((with_reducible refine gate_callee (f := 65) rfl ?_); refine goesL_ (some 10) rfl rfl Try.func65 (by kernel_rfl) rfl #[.int .i64 a1] rfl (by (try simp only [List.map_toArray, List.map_cons, List.map_nil]); first | done | rfl | (simp only [List.length_drop, List.length_take]; rfl)) ?_; (with_reducible refine (cmp_isNaN_int.calls a1 true _ A4.out).mono ?_); rintro e w' ⟨rfl, ⟨nd, rfl⟩⟩; refine ⟨_, rfl, ?_⟩))
      go_ret
      exact ⟨by first | rfl | (simp; done) | (simp [*]; done), by repeat (first | exact Drawn0.refl _ | apply Drawn0.step)⟩
    · replace c7 := Bool.eq_false_iff.mpr c7
      subst c7
      have H1 : (if a0 < a1 then (some (-1)) else (if a0 > a1 then (some 1) else (some 0))) = some r := by rw [if_neg (show ¬ (false = true) by decide)] at H; exact H
      clear H
      have H := H1
      clear H1
      by_cases c8 : a0 < a1
      · rw [if_pos c8] at H
        have c8b0 : decide (a0 < a1) = true := decide_eq_true c8
        clear c8
        obtain rfl := Option.some.inj H
        go_enter Try.func57, Try.ntmps57
        go_wp2_with (first | ((with_reducible refine gate_callee (f := 65) rfl ?_); refine goesL_ (some 8) rfl rfl Try.func65 (by kernel_rfl) rfl #[.int .i64 a0] rfl (by (try simp only [List.map_toArray, List.map_cons, List.map_nil]); first | done | rfl | (simp only [List.length_drop, List.length_take]; rfl)) ?_; (with_reducible refine (cmp_isNaN_int.calls a0 false _ A3.out).mono ?_); rintro e w' ⟨rfl, ⟨nd, rfl⟩⟩; refine ⟨_, rfl, ?_⟩) | ((with_reducible refine gate_callee (f := 65) rfl ?_); refine goesL_ (some 10) rfl rfl Try.func65 (by kernel_rfl) rfl #[.int .i64 a1] rfl (by (try simp only [List.map_toArray, List.map_cons, List.map_nil]); first | done | rfl | (simp only [List.length_drop, List.length_take]; rfl)) ?_; (with_reducible refine (cmp_isNaN_int.calls a1 false _ A4.out).mono ?_); rintro e w' ⟨rfl, ⟨nd, rfl⟩⟩; refine ⟨_, rfl, ?_⟩))
        go_ret
        exact ⟨by first | rfl | (simp; done) | (simp [*]; done), by repeat (first | exact Drawn0.refl _ | apply Drawn0.step)⟩
      · rw [if_neg c8] at H
        have c8b0 : decide (a0 < a1) = false := decide_eq_false c8
        clear c8
        by_cases c9 : a0 > a1
        · rw [if_pos c9] at H
          have c9b0 : decide (a1 < a0) = true := decide_eq_true c9
          clear c9
          obtain rfl := Option.some.inj H
          go_enter Try.func57, Try.ntmps57
          go_wp2_with (first | ((with_reducible refine gate_callee (f := 65) rfl ?_); refine goesL_ (some 8) rfl rfl Try.func65 (by kernel_rfl) rfl #[.int .i64 a0] rfl (by (try simp only [List.map_toArray, List.map_cons, List.map_nil]); first | done | rfl | (simp only [List.length_drop, List.length_take]; rfl)) ?_; (with_reducible refine (cmp_isNaN_int.calls a0 false _ A3.out).mono ?_); rintro e w' ⟨rfl, ⟨nd, rfl⟩⟩; refine ⟨_, rfl, ?_⟩) | ((with_reducible refine gate_callee (f := 65) rfl ?_); refine goesL_ (some 10) rfl rfl Try.func65 (by kernel_rfl) rfl #[.int .i64 a1] rfl (by (try simp only [List.map_toArray, List.map_cons, List.map_nil]); first | done | rfl | (simp only [List.length_drop, List.length_take]; rfl)) ?_; (with_reducible refine (cmp_isNaN_int.calls a1 false _ A4.out).mono ?_); rintro e w' ⟨rfl, ⟨nd, rfl⟩⟩; refine ⟨_, rfl, ?_⟩))
          go_ret
          exact ⟨by first | rfl | (simp; done) | (simp [*]; done), by repeat (first | exact Drawn0.refl _ | apply Drawn0.step)⟩
        · rw [if_neg c9] at H
          have c9b0 : decide (a1 < a0) = false := decide_eq_false c9
          clear c9
          obtain rfl := Option.some.inj H
          go_enter Try.func57, Try.ntmps57
          go_wp2_with (first | ((with_reducible refine gate_callee (f := 65) rfl ?_); refine goesL_ (some 8) rfl rfl Try.func65 (by kernel_rfl) rfl #[.int .i64 a0] rfl (by (try simp only [List.map_toArray, List.map_cons, List.map_nil]); first | done | rfl | (simp only [List.length_drop, List.length_take]; rfl)) ?_; (with_reducible refine (cmp_isNaN_int.calls a0 false _ A3.out).mono ?_); rintro e w' ⟨rfl, ⟨nd, rfl⟩⟩; refine ⟨_, rfl, ?_⟩) | ((with_reducible refine gate_callee (f := 65) rfl ?_); refine goesL_ (some 10) rfl rfl Try.func65 (by kernel_rfl) rfl #[.int .i64 a1] rfl (by (try simp only [List.map_toArray, List.map_cons, List.map_nil]); first | done | rfl | (simp only [List.length_drop, List.length_take]; rfl)) ?_; (with_reducible refine (cmp_isNaN_int.calls a1 false _ A4.out).mono ?_); rintro e w' ⟨rfl, ⟨nd, rfl⟩⟩; refine ⟨_, rfl, ?_⟩))
          go_ret
          exact ⟨by first | rfl | (simp; done) | (simp [*]; done), by repeat (first | exact Drawn0.refl _ | apply Drawn0.step)⟩

end Go.Proofs.Ythbcdmbicfmeaaa.P
