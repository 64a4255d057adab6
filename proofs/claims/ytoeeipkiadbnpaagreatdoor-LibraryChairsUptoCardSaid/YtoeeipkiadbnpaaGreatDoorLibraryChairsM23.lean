/- Texts that the proof of LibraryChairs needs, put together in build order by this session's program (wip/tools/claimtrim.py). -/
import Derived.Test.YtoeeipkiadbnpaaGreatDoorLibraryChairsM20
import Derived.Shelf.SlSortCmp.NoneTotal
import Derived.Ground.SlsfProg
section
open Go Go.Proofs Go.RowKit
shelf_lay_g SlLaysF.n6 Slsf 6 at Tryz 180 as Tryz.sortF180
namespace Go.Proofs.YtoeeipkiadbnpaaGreatDoor.Lib10
open Go.RowKit Go.Proofs.YtoeeipkiadbnpaaGreatDoorW.PrintWords Go.Proofs.YtoeeipkiadbnpaaGreatDoorW.PrintLast Go.Proofs.YtoeeipkiadbnpaaGreatDoorW.PrintMore
set_option linter.unusedVariables false
theorem sortFunc_none (fv : Value) (w : World) : Calls Tryz.prog 180 #[.slice none 0 0, fv] w fun e w' => e = .returned (.tuple #[]) ∧ w' = w :=
  AnyF.slices_SortFunc_none (ρ := Tryz.sortF180_ren) { Tryz.sortF180 with } none 0 fv w
section
set_option maxRecDepth 100000
set_option maxHeartbeats 2000000
theorem sortedFunc_none {W : World} {Bs b2 : Nat} (hm : MR W b2 []) :
    Calls Tryz.prog 128 #[.func (.func 181) #[] #[.pointer (some ⟨W.heap.size, 0, none⟩)], .func (.func 130) #[] #[.pointer (some ⟨Bs, 0, none⟩)]] (W.alloc (.cells #[.map (some b2)] 125)) fun e w' =>
    e = .returned (.slice none 0 0) ∧ Below W.heap.size W w' := by
  have HC := Aside0.mk (collect_calls hm (by simp))
  clear hm
  go_enter Tryz.func128, Tryz.ntmps128
  go_wp2_with (first | (go_at_call 125; refine HC.out.mono ?_; rintro e w1 ⟨v, ss, rfl, hp, hrow, hnil, hb⟩; obtain rfl : v = .slice none 0 0 := hnil.2 (List.Perm.eq_nil hp); have HB1 := Aside0.mk (show Below W.heap.size W w1 from (below_alloc (Below.refl W.heap.size W) _).trans (hb.mono (Nat.le_succ _))); clear hp hrow hnil hb) | (go_at_call 180; refine (sortFunc_none _ w1).mono ?_; rintro e w2 ⟨rfl, rfl⟩))
  go_ret
  exact ⟨rfl, HB1.out⟩
theorem seated_none {W : World} {g b1 b2 b3 : Nat} {m1 m3 : List (Str × Value)} (h : StRec W g b1 b2 b3 m1 [] m3) (v1 v2 : Value) :
    Calls Tryz.prog 83 #[ptr g, .agg #[v1, v2]] W fun e w' => SeatedPost [] e ∧ Below W.heap.size W w' := by
  obtain ⟨W1, hW1⟩ : ∃ W1, W1 = (W.alloc (.cells #[ptr g] 75)).alloc (.cells #[v1, v2] 110) := ⟨_, rfl⟩
  have hb1 : Below W.heap.size W W1 := by rw [hW1]; exact below_alloc (below_alloc (Below.refl _ _) _) _
  have hst1 := h.below hb1
  have q0 : W1.cell? ⟨W.heap.size, 0, none⟩ = some (ptr g) := by
    rw [hW1, cell_alloc (by simp) 0]
    exact (blk_cell (World.alloc_heap_new W (.cells #[ptr g] 75)) 0).trans rfl
  have q1 : W1.cell? ⟨g, 1, none⟩ = some (.map (some b2)) := (blk_cell hst1.cells 1).trans rfl
  have HK := Aside0.mk (keys_calls b2 W1)
  have HS := Aside0.mk (sortedFunc_none (Bs := W.heap.size) hst1.p2)
  have HB1 := Aside0.mk hb1
  have q0x := q0
  have q1x := q1
  rw [hW1] at q0x q1x
  have hW2 := hW1.symm
  clear h hst1 hb1 hW1
  go_enter Tryz.func83, Tryz.ntmps83
  go_wp2_with (first | (go_at_call 129; (try rw [hW2]); refine HK.out.mono ?_; rintro e w ⟨rfl, rfl⟩) | (go_at_call 128; refine HS.out.mono ?_; rintro e w2 ⟨rfl, hb⟩; have HD := Aside0.mk hb; clear hb))
  have HBw := Aside0.mk (HB1.out.trans (HD.out.mono HB1.out.size))
  refine wp_loop_rounds 1 ?_
  rw [rounds_succ]
  go_wp2_with (fail)
  go_ret2
  exact ⟨⟨#[], rfl, by simp [keysOf], fun i j _ _ hj => absurd hj (Nat.not_lt_zero _)⟩, HBw.out⟩
end
/-- The players by their chairs. -/
def seatsOf (ch : List (Str × Int)) : List ByteArray := ((keysOf ch).map fun k => (⟨k.toArray⟩ : ByteArray)).mergeSort fun a b => decide (chairOf ch a ≤ chairOf ch b)
theorem toArr (x : ByteArray) : (⟨x.data.toList.toArray⟩ : ByteArray) = x := by cases x; simp
theorem seats_unique {ch : List (Str × Int)} (ha : Apart ch) {d : Array Nm} (hl : d.size = ch.length) (hp : (d.toList.map (fun x => x.1.data.toList)).Perm (keysOf ch)) (hs : «Sort».SortedIn (ltOf (cmpN ch)) 0 ch.length d) : d.toList.map (·.1) = seatsOf ch := by
  have e : ∀ x y, ltOf (cmpN ch) x y = decide (chairOf ch x.1 < chairOf ch y.1) := fun x y => by
    unfold ltOf cmpN Lib.compareInt
    split
    · next h => simp [h]
    · split
      · next h1 h2 => simp; omega
      · next h1 h2 => simp; omega
  have hp2 : (d.toList.map (·.1)).Perm ((keysOf ch).map fun k => (⟨k.toArray⟩ : ByteArray)) := by
    have h := hp.map (fun k => (⟨k.toArray⟩ : ByteArray))
    rw [List.map_map] at h
    have e2 : ((fun k => (⟨List.toArray k⟩ : ByteArray)) ∘ fun x : Nm => x.1.data.toList) = (·.1) := by funext x; exact toArr x.1
    rwa [e2] at h
  refine List.Perm.eq_of_pairwise (le := fun a b => chairOf ch a ≤ chairOf ch b) ?_ ?_ ?_ (hp2.trans (List.mergeSort_perm _ _).symm)
  · intro a b hma hmb h1 h2
    have hka : a.data.toList ∈ keysOf ch := by
      obtain ⟨k, hk, rfl⟩ := List.mem_map.1 (hp2.mem_iff.1 hma)
      simpa using hk
    have hkb : b.data.toList ∈ keysOf ch := by
      obtain ⟨k, hk, rfl⟩ := List.mem_map.1 (List.mem_mergeSort.1 hmb)
      simpa using hk
    have gv : ∀ x : ByteArray, x.data.toList ∈ keysOf ch → get ch x.data.toList = some (chairOf ch x) := fun x hx => by
      unfold chairOf
      cases hg : get ch x.data.toList with
      | none => exact absurd hx (get_none_iff.1 hg)
      | some v => rfl
    have g1 := gv a hka
    have g2 := gv b hkb
    rw [show chairOf ch b = chairOf ch a by omega] at g2
    have := ha _ _ _ g1 g2
    cases a; cases b
    simp at this
    simp [this]
  · rw [List.pairwise_iff_getElem]
    intro i j hi hj hij
    have hi' : i < d.size := by simpa using hi
    have hj' : j < d.size := by simpa using hj
    have h := hs i j (Nat.zero_le _) hij (by omega)
    rw [getElem!_pos d j hj', getElem!_pos d i hi', e] at h
    simp at h ⊢
    exact h
  · have h := List.pairwise_mergeSort (le := fun a b => decide (chairOf ch a ≤ chairOf ch b)) (by intro a b c; simp; omega) (by intro a b; simp; omega) ((keysOf ch).map fun k => (⟨k.toArray⟩ : ByteArray))
    exact h.imp (fun h => by simpa using h)
/-- Who sits where, as a string. -/
def seatedAll (ch : List (Str × Int)) : ByteArray := seatedV ch (seatsOf ch)
theorem chair_r8 {st : St} (h : Good st) (n : ByteArray) : 0 ≤ chairOf st.chairs n ∧ chairOf st.chairs n ≤ 8 := by
  unfold chairOf
  cases hg : get st.chairs n.data.toList with
  | none => decide
  | some c => have := h.seat _ _ hg; show 0 ≤ c ∧ c ≤ 8; omega
theorem seated_good {W : World} {g b1 b2 b3 : Nat} {m1 m3 : List (Str × Value)} {st : St} (hg : Good st) (h : StRec W g b1 b2 b3 m1 (ints st.chairs) m3) (v1 v2 : Value) (hT : Tabs W) :
    Calls Tryz.prog 83 #[ptr g, .agg #[v1, v2]] W fun e w' => e = .returned (.tuple #[.string (seatedAll st.chairs), .int .i64 0]) ∧ Below W.heap.size W w' := by
  have key : Calls Tryz.prog 83 #[ptr g, .agg #[v1, v2]] W fun e w' => SeatedPost st.chairs e ∧ Below W.heap.size W w' := by
    by_cases hne : st.chairs = []
    · rw [hne] at h ⊢
      exact seated_none h v1 v2
    · exact seated_calls h v1 v2 (by have := hg.c8; omega) hne (fun k hk => by have := isNameB_len (hg.k2 k hk); omega) hT (fun n => by have := chair_r8 hg n; omega)
  refine key.mono ?_
  rintro e w' ⟨⟨d, rfl, hp, hs⟩, hb⟩
  have hl : d.size = st.chairs.length := by have := hp.length_eq; simpa [keysOf] using this
  rw [seats_unique hg.apart hl hp hs]
  exact ⟨rfl, hb⟩
end Go.Proofs.YtoeeipkiadbnpaaGreatDoor.Lib10
end
