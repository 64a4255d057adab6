/- Texts that the proof of TopTriads needs, put together in build order by this session's program (wip/tools/claimtrim.py). -/
import Derived.Test.YtolnpamjkhbgeaaDoorTopTriadsM8
import Derived.Test.YtolnpamjkhbgeaaDoorTopTriadsM6
import Derived.Test.YtolnpamjkhbgeaaDoorTopTriadsM5
import Derived.Test.YtolnpamjkhbgeaaDoorTopTriadsM9
import Derived.RangeFuncNested
import Derived.RangeFuncBound
import Derived.RangeFuncCalls
import Derived.RangeFuncLeaves
import Derived.RangeFuncBox
import Derived.Shelf.Abstract
import Derived.Shelf.AbstractIn
import Derived.Shelf.RegionOpen
import Derived.WalkKit
import Derived.OwnWalkIn
import Derived.TacticsInMore
import Derived.LoopNIn
import Derived.LoopIn
import Derived.Sort.QuietIn
import Derived.Sort.BigQuietIn
section
namespace Go.Proofs.YtolnpamjkhbgeaaDoor.P
open Go.RowKit Go.Proofs.YtolnpamjkhbgeaaDoorW.PrintWords Go.Proofs.YtolnpamjkhbgeaaDoorW.PrintLast Go.Proofs.YtolnpamjkhbgeaaDoorW.PrintMore
section
open Go.Shelf Bits
attribute [local go_sem] Oper.semAt_some
/-- The library's table lies where its variable is. -/
def TabIn (w : World) : Prop := TabAt (Tryd.lays27_ren.g 1) Lib.deBruijn64tab w
theorem tabIn_below {w w' : World} (h : TabIn w) (hb : Below w.heap.size w w') : TabIn w' := fun j hj => (hb.cell (World.block_lt_of_cell? w _ (h j hj))).trans (h j hj)
theorem bits_and_i64_nat (x y : Nat) (hx : x < 2 ^ 63) (hy : y < 2 ^ 63) : bits .and .i64 (x : Int) (y : Int) = ((x &&& y : Nat) : Int) := by
  exact (bits_nat .i64 63 (by decide) (fun n h0 h1 => by rw [IntKind.wrap_i64]; omega) x y hx hy).1
/-- The chord in the box. -/
def chordAt (b : Nat) (w : World) : Nat := match w.cell? ⟨b, 0, none⟩ with | some (.int _ v) => v.toNat | _ => 0
theorem tabIn_set {w : World} {b : Nat} {u : Int} {t : Nat} (h : TabIn w) (hb : w.heap[b]? = some (.cells #[.int .i64 u] t (0, 0))) (v : Value) : TabIn (w.setCell ⟨b, 0, none⟩ v) := by
  have hne : Tryd.lays27_ren.g 1 ≠ b := by
    intro e
    have h1 := h 0 (by decide)
    rw [e] at h1
    have h2 : w.cell? ⟨b, 0, none⟩ = some (.int .i64 u) := (blk_cell hb 0).trans rfl
    rw [h2] at h1
    cases h1
  intro j hj
  exact (World.cell?_of_block (Below.heap_setCell w ⟨b, 0, none⟩ v _ hne)).trans (h j hj)
/-- The box of the chord is written. -/
def Wrote (b : Nat) (A B : World) : Prop := ∃ u v : Int, A.heap[b]? = some (.cells #[.int .i64 u] 3 (0, 0)) ∧ B = A.setCell ⟨b, 0, none⟩ (.int .i64 v)
set_option maxHeartbeats 2000000 in
set_option maxRecDepth 100000 in
theorem tones_iter (m : Nat) (s : Nat) (hs : s < 65536) (b : Nat) (w0 : World) (hT : TabIn w0) (hbx : w0.heap[b]? = some (.cells #[.int .i64 s] 3 (0, 0))) :
    Range.Iter3 Tryd.prog m 60 #[] #[.pointer (some ⟨b, 0, none⟩)] (fun (x : Nat) => #[.int .i64 x]) (fun A B => A.heap.size ≤ B.heap.size ∧ B.heap[b]? = A.heap[b]? ∧ (TabIn A → TabIn B)) (Wrote b) (fun pre x _ => ∃ r, tonesL s = pre ++ x :: r) (fun xs => xs = tonesL s) (fun _ => True) w0 := by
  intro l J Jx W hW hJ hJx hJw hJxw hY h0
  refine (callsIn_wide (n := m + 1)).1 ?_
  refine callsIn_of_wp Tryd.func60 rfl trivial ?_ rfl
  simp only [Tryd.ntmps60, List.size_toArray, List.length_cons, List.length_nil, Nat.reduceAdd, Nat.reduceSub, Array.replicate_succ, Array.replicate_zero, List.push_toArray, List.append_toArray, List.nil_append, List.cons_append]
  have HT := Aside0.mk (tabIn_below hT (hW.mono (Nat.le_refl _)))
  have HX := Aside0.mk (show W.heap[b]? = some (.cells #[.int .i64 s] 3 (0, 0)) from (hW.block b (Array.getElem?_eq_some_iff.1 hbx).1).trans hbx)
  clear hT hbx
  gi_wp2
  gi_loopw [] (fun wr => ∃ (pre : List Nat) (c : Nat), tonesL s = pre ++ tonesL c ∧ c < 65536 ∧ Aside0 (J pre wr) ∧ Aside0 (wr.heap[b]? = some (.cells #[.int .i64 c] 3 (0, 0))) ∧ Aside0 (TabIn wr)) (fun wr => chordAt b wr)
  case atStart =>
    exact ⟨[], s, rfl, hs, ⟨h0⟩, HX, HT⟩
  case round =>
    obtain ⟨pre, c, hts, hc, hJp, hbox, hTr⟩ := hrel
    have hcz0 : wr.cell? ⟨b, 0, none⟩ = some (.int .i64 c) := (blk_cell hbox.out 0).trans rfl
    have hfr0 : wr.frozen? ⟨b, 0, none⟩ = false := by simp [World.frozen?, hbox.out]
    by_cases hz : c = 0
    · have hn : ((c : Int) != 0) = false := bne_eq_false_iff_eq.2 (by omega)
      have h1 : tonesL c = [] := by rw [tonesL, if_pos hz]
      have HF := Aside0.mk (show pre = tonesL s by rw [hts, h1, List.append_nil])
      clear hts hfr0 h1
      gi_wp2
      go_end0
      exact ⟨⟨_, rfl⟩, .inl ⟨pre, HF.out, hJp.out⟩⟩
    · have hn : ((c : Int) != 0) = true := bne_iff_ne.2 (by omega)
      have h1 : tonesL c = Lib.ctz 64 c :: tonesL (c &&& (c - 1)) := by rw [tonesL, if_neg hz]
      have HE := Aside0.mk (show tonesL s = pre ++ Lib.ctz 64 c :: tonesL (c &&& (c - 1)) by rw [hts, h1])
      have hw1 : IntKind.u64.wrap (c : Int) = (c : Int) := by rw [IntKind.wrap_u64]; omega
      have HZ := Aside0.mk hz
      clear hts h1 hz
      gi_wp2_with fail
      refine ⟨trivial, ?_⟩
      refine (callsIn_wide.2 (Any7.bits_TrailingZeros Tryd.lays27 c (by omega) _ (fun _ => hTr.out))).mono ?_
      rintro e w' ⟨rfl, hw'⟩
      subst hw'
      obtain ⟨fn, tmps, assign, body, hy, hRd0⟩ := hY pre (Lib.ctz 64 c) _ hJp.out ⟨_, HE.out⟩
      try dsimp only at hy
      have hRd := Aside0.mk hRd0
      clear hRd0
      gi_wp2_with fail
      clear hy hcz0 hfr0
      refine hRd.out.mono ?_
      have hlt : c &&& (c - 1) < c := Nat.lt_of_le_of_lt Nat.and_le_right (by have := HZ.out; omega)
      have hwr : chordAt b w' = c := by unfold chordAt; rw [show w'.cell? ⟨b, 0, none⟩ = some (.int .i64 c) from (blk_cell hbox.out 0).trans rfl]; simp
      rintro e W3 (⟨rfl, hJ3, hsz, hkb, hkt⟩ | ⟨rfl, hJ3⟩)
      · have HJ3 := Aside0.mk hJ3
        have HB3 := Aside0.mk (hkb.trans hbox.out)
        have HT3 := Aside0.mk (hkt hTr.out)
        have hc1 : W3.cell? ⟨b, 0, none⟩ = some (.int .i64 c) := (blk_cell HB3.out 0).trans rfl
        have hfr1 : W3.frozen? ⟨b, 0, none⟩ = false := by simp [World.frozen?, HB3.out]
        have hw2 : IntKind.i64.wrap ((c : Int) - 1) = ((c - 1 : Nat) : Int) := by rw [IntKind.wrap_i64]; have := HZ.out; omega
        have hw3 : bits .and .i64 (c : Int) ((c - 1 : Nat) : Int) = ((c &&& (c - 1) : Nat) : Int) := bits_and_i64_nat _ _ (by omega) (by omega)
        have HW := Aside0.mk hwr
        clear hJ3 hkb hkt hsz hwr
        gi_wp2
        go_roundw
        case rel =>
          have hn2 := blk_put (cs := #[.int .i64 (c : Int)]) HB3.out 0 (.int .i64 ((c &&& (c - 1) : Nat) : Int)) rfl
          exact ⟨pre ++ [Lib.ctz 64 c], c &&& (c - 1), by rw [HE.out]; simp, by omega, ⟨hJw _ _ _ HJ3.out ⟨_, _, HB3.out, rfl⟩⟩, ⟨hn2⟩, ⟨tabIn_set HT3.out HB3.out _⟩⟩
        case measure =>
          have hn2 := blk_put (cs := #[.int .i64 (c : Int)]) HB3.out 0 (.int .i64 ((c &&& (c - 1) : Nat) : Int)) rfl
          rw [HW.out]
          unfold chordAt
          rw [show (W3.setCell ⟨b, 0, none⟩ (.int .i64 ((c &&& (c - 1) : Nat) : Int))).cell? ⟨b, 0, none⟩ = some (.int .i64 ((c &&& (c - 1) : Nat) : Int)) from (blk_cell hn2 0).trans rfl]
          simpa using hlt
      · have HJ3 := Aside0.mk hJ3
        clear hJ3 hwr
        gi_wp2
        refine bodyPost_ret (results_none rfl _ _ _) rfl ?_
        exact ⟨⟨_, rfl⟩, .inr ⟨_, trivial, HJ3.out⟩⟩
set_option maxHeartbeats 2000000 in
set_option maxRecDepth 100000 in
theorem tones_calls (s : Int) (w : World) : Calls Tryd.prog 40 #[.int .i64 s] w fun e w' => e = .returned (.func (.func 60) #[] #[.pointer (some ⟨w.heap.size, 0, none⟩)]) ∧ w' = w.alloc (.cells #[.int .i64 s] 3) := by
  refine (callsIn_wide (n := 1)).1 ?_
  refine callsIn_of_wp Tryd.func40 rfl trivial ?_ rfl
  simp only [Tryd.ntmps40, List.size_toArray, List.length_cons, List.length_nil, Nat.reduceAdd, Nat.reduceSub, Array.replicate_succ, Array.replicate_zero, List.push_toArray, List.append_toArray, List.nil_append, List.cons_append]
  gi_wp2
  refine bodyPost_ret (by simp [results, Tryd.results40, go_sem]; rfl) rfl ?_
  exact ⟨rfl, rfl⟩
set_option maxHeartbeats 2000000 in
set_option maxRecDepth 100000 in
theorem turn1_calls (x : Int) (w : World) : Calls Tryd.prog 34 #[.int .i64 x] w fun e w' => e = .returned (.int .i64 (wrap64 (-x))) ∧ w' = w := by
  refine (callsIn_wide (n := 1)).1 ?_
  refine callsIn_of_wp Tryd.func34 rfl trivial ?_ rfl
  simp only [Tryd.ntmps34, List.size_toArray, List.length_cons, List.length_nil, Nat.reduceAdd, Nat.reduceSub, Array.replicate_succ, Array.replicate_zero, List.push_toArray, List.append_toArray, List.nil_append, List.cons_append]
  gi_wp2
  refine bodyPost_ret (by simp [results, Tryd.results34, go_sem]; rfl) rfl ?_
  exact ⟨rfl, rfl⟩
end
end Go.Proofs.YtolnpamjkhbgeaaDoor.P
end
