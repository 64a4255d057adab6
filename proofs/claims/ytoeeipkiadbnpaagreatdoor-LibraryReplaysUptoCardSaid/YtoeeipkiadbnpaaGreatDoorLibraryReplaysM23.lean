/- Texts that the proof of LibraryReplays needs, put together in build order by this session's program (wip/tools/claimtrim.py). -/
import Derived.Test.YtoeeipkiadbnpaaGreatDoorLibraryReplaysM21
import Derived.Test.YtoeeipkiadbnpaaGreatDoorLibraryReplaysM19
import Derived.Shelf.SlIter.Nil
import Derived.Shelf.SortM.Plain
import Derived.Shelf.SortM.SortNone
import Derived.Ground.GgzProg
import Derived.Ground.SlgmProg
section
open Go Go.Proofs Go.RowKit
shelf_lay_g SlLaysZ.n7 Ggz 7 at Tryz 132 as Tryz.keys132
shelf_lay_g SlLaysZ.n7 Ggz 7 at Tryz 80 as Tryz.keys80
shelf_lay_g SlLaysZ.n6 Ggz 6 at Tryz 79 as Tryz.sorted79
shelf_lay_g SlLaysM.n6 Slgm 6 at Tryz 126 as Tryz.sort126
namespace Go.Proofs.YtoeeipkiadbnpaaGreatDoor.Lib10
open Go.RowKit Go.Maps Go.Sort Go.Shelf Go.Proofs.YtoeeipkiadbnpaaGreatDoorW.PrintWords Go.Proofs.YtoeeipkiadbnpaaGreatDoorW.PrintLast Go.Proofs.YtoeeipkiadbnpaaGreatDoorW.PrintMore
set_option linter.unusedVariables false
/-- The names, ascending. -/
def namesOf (ks : List Str) : List ByteArray := (ks.mergeSort leB).map fun k => ⟨k.toArray⟩
theorem namesOf_length (ks : List Str) : (namesOf ks).length = ks.length := by simp [namesOf]
theorem namesOf_mem {ks : List Str} {x : ByteArray} (h : x ∈ namesOf ks) : x.data.toList ∈ ks := by
  obtain ⟨k, hk, rfl⟩ := List.mem_map.1 h
  simpa using List.mem_mergeSort.1 hk
theorem sorts126 (m : Nat) : AnyZ.SortsIn Tryz.prog Tryz.sorted79_ren Fence.wide m :=
  ⟨fun blk off cap ss W hH hblk hsz => callsIn_wide.2 (AnyM.slices_Sort_string Tryz.sort126 blk off cap ss W hH hblk hsz),
   fun p cap W => callsIn_wide.2 (AnyM.slices_Sort_string_none Tryz.sort126 p cap W)⟩
theorem R_of_keys {w : World} {base : Nat} {v : Value} {ss ks : List Str} (hp : ss.Perm ks) (h : w.ownsRow base 9 1 v ss.length ((ss.mergeSort (fun x y => decide (x ≤ y))).map encStr)) : Kd.string.R 9 w base (fun _ => True) v (namesOf ks) := by
  have e : ss.mergeSort (fun x y => decide (x ≤ y)) = ks.mergeSort leB := mergeSort_of_perm hp
  refine R_of_own ?_
  rw [e] at h
  have e2 : (namesOf ks).map Value.string = (ks.mergeSort leB).map encStr := by simp [namesOf, encStr]
  have e3 : (namesOf ks).length = ss.length := by rw [namesOf_length]; exact hp.length_eq.symm
  rw [e2, e3]
  exact h
theorem keys132_calls (b : Nat) (W : World) : Calls Tryz.prog 132 #[.map (some b)] W fun e w' => e = .returned (.func (.func 183) #[] #[.pointer (some ⟨W.heap.size, 0, none⟩)]) ∧ w' = W.alloc (.cells #[.map (some b)] 126) :=
  (callsIn_wide (n := 5)).1 (AnyZ.keys_in Tryz.keys132 Fence.wide 5 trivial rfl (some b) W)
set_option maxHeartbeats 1000000 in
theorem sorted132_calls {W : World} {b : Nat} {m : List (Str × Value)} (hm : MR W b m) (hl : m.length ≤ 1000) : Calls Tryz.prog 79 #[.func (.func 183) #[] #[.pointer (some ⟨W.heap.size, 0, none⟩)]] (W.alloc (.cells #[.map (some b)] 126)) fun e w' =>
    ∃ v, e = .returned v ∧ Kd.string.R 9 w' (W.heap.size + 1) (fun _ => True) v (namesOf (keysOf m)) ∧ Go.RowKit.Below W.heap.size W w' := by
  obtain ⟨D, hown, ha⟩ := hm
  have hbl := hown.lt
  have hsz : Maps.size D ≤ 1000 := by rw [ha.size_]; exact hl
  have hseq : SeqGives Fence.wide 3 Tryz.prog 183 #[.pointer (some ⟨W.heap.size, 0, none⟩)] encStr (fun ss => ss.Perm (strKeys D)) (Maps.size D) (W.alloc (.cells #[.map (some b)] 126)) :=
    AnyZ.keys_gives (ρ := Tryz.keys132_ren) { Tryz.keys132 with } Fence.wide _ trivial rfl (by omega) W.heap.size b m.length D _ (by simp) (by simp) (by
      obtain ⟨es, clock, hb, Ft, hs, hD⟩ := hown
      exact ⟨es, clock, (Below.heap_alloc _ _ b hbl).trans hb, Ft, hs, hD⟩)
  have cS := AnyZ.sorted_in Tryz.sorted79 Fence.wide 6 trivial trivial trivial trivial rfl (by omega) (sorts126 _) (enters_of Tryz.func126 (by kernel_rfl) rfl) 183 #[.pointer (some ⟨W.heap.size, 0, none⟩)] trivial (enters_of Tryz.func183 (by kernel_rfl) rfl) _ _ (by unfold maxLen; omega) (by omega) _ hseq
  change CallsIn _ _ Tryz.prog 79 _ _ _ at cS
  refine ((callsIn_wide (n := 6)).1 cS).mono ?_
  rintro e w' ⟨v, ss, rfl, hp, hrow, hnil, hb⟩
  rw [World.size_alloc] at hrow hb
  exact ⟨v, rfl, R_of_keys (hp.trans (keys_perm hown ha).symm) hrow, (((Below.refl W.heap.size W).alloc (Nat.le_refl _) _).trans (hb.mono (Nat.le_succ _)))⟩
theorem keys80_calls (b : Nat) (W : World) : Calls Tryz.prog 80 #[.map (some b)] W fun e w' => e = .returned (.func (.func 127) #[] #[.pointer (some ⟨W.heap.size, 0, none⟩)]) ∧ w' = W.alloc (.cells #[.map (some b)] 124) :=
  (callsIn_wide (n := 5)).1 (AnyZ.keys_in Tryz.keys80 Fence.wide 5 trivial rfl (some b) W)
set_option maxHeartbeats 1000000 in
theorem sorted80_calls {W : World} {b : Nat} {m : List (Str × Value)} (hm : MR W b m) (hl : m.length ≤ 1000) : Calls Tryz.prog 79 #[.func (.func 127) #[] #[.pointer (some ⟨W.heap.size, 0, none⟩)]] (W.alloc (.cells #[.map (some b)] 124)) fun e w' =>
    ∃ v, e = .returned v ∧ Kd.string.R 9 w' (W.heap.size + 1) (fun _ => True) v (namesOf (keysOf m)) ∧ Go.RowKit.Below W.heap.size W w' := by
  obtain ⟨D, hown, ha⟩ := hm
  have hbl := hown.lt
  have hsz : Maps.size D ≤ 1000 := by rw [ha.size_]; exact hl
  have hseq : SeqGives Fence.wide 3 Tryz.prog 127 #[.pointer (some ⟨W.heap.size, 0, none⟩)] encStr (fun ss => ss.Perm (strKeys D)) (Maps.size D) (W.alloc (.cells #[.map (some b)] 124)) :=
    AnyZ.keys_gives (ρ := Tryz.keys80_ren) { Tryz.keys80 with } Fence.wide _ trivial rfl (by omega) W.heap.size b m.length D _ (by simp) (by simp) (by
      obtain ⟨es, clock, hb, Ft, hs, hD⟩ := hown
      exact ⟨es, clock, (Below.heap_alloc _ _ b hbl).trans hb, Ft, hs, hD⟩)
  have cS := AnyZ.sorted_in Tryz.sorted79 Fence.wide 6 trivial trivial trivial trivial rfl (by omega) (sorts126 _) (enters_of Tryz.func126 (by kernel_rfl) rfl) 127 #[.pointer (some ⟨W.heap.size, 0, none⟩)] trivial (enters_of Tryz.func127 (by kernel_rfl) rfl) _ _ (by unfold maxLen; omega) (by omega) _ hseq
  change CallsIn _ _ Tryz.prog 79 _ _ _ at cS
  refine ((callsIn_wide (n := 6)).1 cS).mono ?_
  rintro e w' ⟨v, ss, rfl, hp, hrow, hnil, hb⟩
  rw [World.size_alloc] at hrow hb
  exact ⟨v, rfl, R_of_keys (hp.trans (keys_perm hown ha).symm) hrow, (((Below.refl W.heap.size W).alloc (Nat.le_refl _) _).trans (hb.mono (Nat.le_succ _)))⟩
end Go.Proofs.YtoeeipkiadbnpaaGreatDoor.Lib10
end
