/- Texts that the proof of TopTriads needs, put together in build order by this session's program (wip/tools/claimtrim.py). -/
import Derived.Test.YtolnpamjkhbgeaaDoorTopTriadsM3
import Derived.Sort.OwnSortedInts
import Derived.Shelf.Sort.Plain
import Derived.Shelf.Slices.In.SortNone
import Derived.Shelf.Slices.CompactI
section
namespace Go.Proofs.YtolnpamjkhbgeaaDoor.Slices
open Go.RowKit Go.Shelf Go.Sort Go.Proofs.YtolnpamjkhbgeaaDoorW.PrintWords Go.Proofs.YtolnpamjkhbgeaaDoorW.PrintLast
variable {P : Program} {ρ : Ren}
/-- A list of whole numbers, rising. -/
def sorted (l : List Int) : List Int := l.mergeSort fun x y => decide (x ≤ y)

theorem sort_own (Ly : Lays.n189 P ρ) (e : Nat) (P0_ : Nat → Prop) (u : Value) (l0 : List Int) (w0 w : World) (hB : Below w0.heap.size w0 w) (ho : Kd.R (Kd.int .i64) e w w0.heap.size P0_ u l0) (hl : l0.length < 4611686018427387904) :
    Calls P (ρ.f 189) #[u] w fun e' w' => e' = .returned (.tuple #[]) ∧ Kd.R (Kd.int .i64) e w' w0.heap.size (fun k_ => (P0_ k_ ∨ w.heap.size ≤ k_)) u (sorted l0) ∧ Below w0.heap.size w0 w' ∧ Kept w w' (fun k_ => P0_ k_) := by
  have hown := Kd.own_of_R ho
  have hs : (sorted l0).length = l0.length := by simp [sorted]
  rcases hown.2 with ⟨rfl, h0⟩ | ⟨g, cap, cur, rfl, hbase, hheap, h1, h2, h3, h4⟩
  · have hl0 : l0 = [] := List.eq_nil_of_length_eq_zero h0
    subst hl0
    refine (Any.slices_Sort_int_none Ly none 0 w).mono ?_
    rintro e' w' ⟨rfl, rfl⟩
    exact ⟨rfl, (by rw [show sorted [] = [] by simp [sorted]]; exact Kd.R_nil _ _ _ _ _), hB, Kept.refl _ _⟩
  · have hg : g < w.heap.size := (Array.getElem?_eq_some_iff.1 hheap).1
    have hH : Holds (Value.int .i64) w g 0 l0.toArray := holds_of_blockI hheap (by rw [Nat.mul_one] at h4; exact h4)
    refine (Any.slices_Sort_int Ly g 0 cap l0 w hH hg hl).mono ?_
    rintro e' w' ⟨rfl, n, os, rfl⟩
    have hgr := grownBy_sortedI (w := w) (g := g) (n := n) (os := os) (l0.mergeSort fun x y => decide (x ≤ y)).toArray
    refine ⟨rfl, ?_, pw_below_grown hB (some g) hB.size hgr (fun k hk => by cases hk; exact hbase), Kept.of_grown hgr (Kept.refl _ _) (fun k hk => .inl (ho.1 k (by cases hk; rfl)))⟩
    have hr := ownsRow_sortedI (w := w) (base := w0.heap.size) (g := g) (cap := cap) (n := n) (e := e) (os := os) (cur := cur) (ss := l0) (ts := sorted l0) hs hbase hheap h1 h2 (by rw [h3])
    refine Kd.R_of_own ?_ (fun k hk => .inl (ho.1 k hk))
    rw [hs]
    exact hr

theorem compact_own (L : Lays2.n20 P ρ) (e : Nat) (P0_ : Nat → Prop) (u : Value) (l0 : List Int) (w0 w : World) (hB : Below w0.heap.size w0 w) (ho : Kd.R (Kd.int .i64) e w w0.heap.size P0_ u l0) :
    Calls P (ρ.f 20) #[u] w fun e' w' => ∃ v0_ : Value, e' = .returned (v0_) ∧ Kd.R (Kd.int .i64) e w' w0.heap.size (fun k_ => (P0_ k_ ∨ w.heap.size ≤ k_)) v0_ (Lib.compact l0) ∧ Below w0.heap.size w0 w' ∧ Kept w w' (fun k_ => P0_ k_) := by
  have hown := Kd.own_of_R ho
  have hlen : (Lib.compact l0).length ≤ l0.length := by
    simp only [Lib.compact, Lib.compactUpTo, List.length_map]
    exact Nat.le_trans (List.length_filter_le _ _) (by simp)
  rcases hown.2 with ⟨rfl, h0⟩ | ⟨g, cap, cur, rfl, hbase, hheap, h1, h2, h3, h4⟩
  · have hl0 : l0 = [] := List.eq_nil_of_length_eq_zero h0
    subst hl0
    refine (Any.slices_Compact_int_empty L none 0 w).mono ?_
    rintro e' w' ⟨rfl, rfl⟩
    exact ⟨_, rfl, (show Lib.compact ([] : List Int) = [] by simp [Lib.compact, Lib.compactUpTo]) ▸ Kd.R_nil _ _ _ _ _, hB, Kept.refl _ _⟩
  · have hg : g < w.heap.size := (Array.getElem?_eq_some_iff.1 hheap).1
    have hH : Holds (Value.int .i64) w g 0 l0.toArray := holds_of_blockI hheap (by rw [Nat.mul_one] at h4; exact h4)
    unfold maxLen at h2
    refine (Any.slices_Compact_int L g 0 cap l0 w hH (by omega) h1).mono ?_
    rintro e' w' ⟨rfl, n, rfl⟩
    have hgw : putRow (Value.int .i64) (Sort.ahead w n) g 0 (Lib.compact l0 ++ List.replicate (l0.length - (Lib.compact l0).length) 0).toArray = grow (putRow (Value.int .i64) (Sort.ahead w n) g 0 (Lib.compact l0 ++ List.replicate (l0.length - (Lib.compact l0).length) 0).toArray) #[] := by
      rw [grow_empty]
    rw [hgw]
    have hgr := grownBy_sortedI (w := w) (g := g) (n := n) (os := #[]) (Lib.compact l0 ++ List.replicate (l0.length - (Lib.compact l0).length) 0).toArray
    refine ⟨_, rfl, ?_, pw_below_grown hB (some g) hB.size hgr (fun k hk => by cases hk; exact hbase), Kept.of_grown hgr (Kept.refl _ _) (fun k hk => .inl (ho.1 k (by cases hk; rfl)))⟩
    have hr := ownsRow_sortedI (w := w) (base := w0.heap.size) (g := g) (cap := cap) (n := n) (e := e) (os := #[]) (cur := cur) (ss := l0) (ts := Lib.compact l0 ++ List.replicate (l0.length - (Lib.compact l0).length) 0) (by simp; omega) hbase hheap h1 (by unfold maxLen; exact h2) (by rw [h3])
    refine Kd.R_of_own ⟨by simp [encs], .inr ?_⟩ (fun k hk => .inl (ho.1 g rfl |> fun h => by cases hk; exact h))
    rcases hr.2 with ⟨h, _⟩ | ⟨g', cap', cur', hv, hb', hh', hn', hc', hs', ht'⟩
    · cases h
    · cases hv
      refine ⟨g, cap, cur', rfl, hb', hh', by omega, hc', hs', ?_⟩
      have := congrArg (fun l => l.take (Lib.compact l0).length) ht'
      simp only [List.take_take] at this
      rw [Nat.min_eq_left (by omega)] at this
      rw [Nat.mul_one, this]
      simp [encs]

end Go.Proofs.YtolnpamjkhbgeaaDoor.Slices
end
