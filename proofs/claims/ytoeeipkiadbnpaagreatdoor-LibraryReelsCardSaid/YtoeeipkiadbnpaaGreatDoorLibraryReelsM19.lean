/- Texts that the proof of LibraryReels needs, put together in build order by this session's program (wip/tools/claimtrim.py). -/
import Derived.Test.YtoeeipkiadbnpaaGreatDoorLibraryReelsM18
import Derived.Shelf.SlIter.Collect
import Derived.Shelf.SlIter.Stops
section
open Go Go.Proofs Go.RowKit
shelf_lay_g SlLaysZ.n7 Ggz 7 at Tryz 129 as Tryz.keys129
shelf_lay_g SlLaysZ.n8 Ggz 8 at Tryz 125 as Tryz.collect125
namespace Go.Proofs.YtoeeipkiadbnpaaGreatDoor.Lib10
open Go.RowKit Go.Maps Go.Sort Go.Shelf Go.Proofs.YtoeeipkiadbnpaaGreatDoorW.PrintWords Go.Proofs.YtoeeipkiadbnpaaGreatDoorW.PrintLast Go.Proofs.YtoeeipkiadbnpaaGreatDoorW.PrintMore
set_option linter.unusedVariables false
theorem keys_perm {W : World} {b : Nat} {n : Nat} {D : DataW Value} {m : List (Str × Value)} (hown : W.ownsMap Tryz.prog 9 asIs b n D) (ha : Agrees D m) : (keysOf m).Perm (strKeys D) := by
  obtain ⟨es, hD, hpw, _⟩ := hown.entries law9
  obtain ⟨es', hD', hko⟩ := hown.keysOf
  obtain rfl : es = es' := by rw [hD] at hD'; simpa using hD'
  subst hD
  refine perm_strKeys hpw (fun p hp => by obtain ⟨v, hv⟩ := hko p hp; obtain ⟨x, _, hx, _⟩ := Maps.keyOf_str Tryz.underlying9 hv; exact ⟨x, hx⟩) ha.nodup (fun x => ?_)
  rw [ha.has_]
  constructor
  · intro h
    cases hg : get m x with
    | some v => rfl
    | none => exact absurd h (get_none_iff.1 hg)
  · intro h
    obtain ⟨v, hv⟩ := Option.isSome_iff_exists.1 h
    exact List.mem_map.2 ⟨_, get_some_mem hv, rfl⟩
theorem keys_calls (b : Nat) (W : World) : Calls Tryz.prog 129 #[.map (some b)] W fun e w' => e = .returned (.func (.func 181) #[] #[.pointer (some ⟨W.heap.size, 0, none⟩)]) ∧ w' = W.alloc (.cells #[.map (some b)] 125) :=
  (callsIn_wide (n := 5)).1 (AnyZ.keys_in Tryz.keys129 Fence.wide 5 trivial rfl (some b) W)
set_option maxHeartbeats 1000000 in
theorem collect_calls {W : World} {b : Nat} {m : List (Str × Value)} (hm : MR W b m) (hl : m.length ≤ 1000) : Calls Tryz.prog 125 #[.func (.func 181) #[] #[.pointer (some ⟨W.heap.size, 0, none⟩)]] (W.alloc (.cells #[.map (some b)] 125)) fun e w' =>
    ∃ (v : Value) (ss : List (List UInt8)), e = .returned v ∧ ss.Perm (keysOf m) ∧ w'.ownsRow (W.heap.size + 1) 9 1 v ss.length (ss.map encStr) ∧ (v = .slice none 0 0 ↔ ss = []) ∧ Below (W.heap.size + 1) (W.alloc (.cells #[.map (some b)] 125)) w' := by
  obtain ⟨D, hown, ha⟩ := hm
  have hbl := hown.lt
  have hsz : Maps.size D ≤ 1000 := by rw [ha.size_]; exact hl
  have hseq : SeqGives Fence.wide 3 Tryz.prog 181 #[.pointer (some ⟨W.heap.size, 0, none⟩)] encStr (fun ss => ss.Perm (strKeys D)) (Maps.size D) (W.alloc (.cells #[.map (some b)] 125)) :=
    AnyZ.keys_gives (ρ := Tryz.keys129_ren) { Tryz.keys129 with } Fence.wide _ trivial rfl (by omega) W.heap.size b m.length D _ (by simp) (by simp) (by
      obtain ⟨es, clock, hb, Ft, hs, hD⟩ := hown
      exact ⟨es, clock, (Below.heap_alloc _ _ b hbl).trans hb, Ft, hs, hD⟩)
  have cS := AnyZ.collect_in Tryz.collect125 Fence.wide 5 trivial trivial rfl (by omega) 181 #[.pointer (some ⟨W.heap.size, 0, none⟩)] trivial (enters_of Tryz.func181 (by kernel_rfl) rfl) _ _ (by unfold maxLen; omega) (by omega) _ hseq
  change CallsIn _ _ Tryz.prog 125 _ _ _ at cS
  refine ((callsIn_wide (n := 5)).1 cS).mono ?_
  rintro e w' ⟨v, ss, rfl, hp, hrow, hnil, hb⟩
  rw [World.size_alloc] at hrow hb
  exact ⟨v, ss, rfl, hp.trans (keys_perm hown ha).symm, hrow, hnil, hb⟩
end Go.Proofs.YtoeeipkiadbnpaaGreatDoor.Lib10
end

section
namespace Go.Proofs.YtoeeipkiadbnpaaGreatDoor.Lib10
open Go.RowKit Go.Maps Go.Sort Go.Shelf Go.Proofs.YtoeeipkiadbnpaaGreatDoorW.PrintWords Go.Proofs.YtoeeipkiadbnpaaGreatDoorW.PrintLast Go.Proofs.YtoeeipkiadbnpaaGreatDoorW.PrintMore
set_option linter.unusedVariables false
theorem sortWorld_heap {α : Type} [Inhabited α] (enc : α → Value) (w : World) (blk off m : Nat) (dk : Array α) (os : Array Obj) {k : Nat} (hk : k < w.heap.size) (hne : k ≠ blk) : (sortWorld enc w blk off m dk os).heap[k]? = w.heap[k]? := by
  have h1 : k < (putRow enc (Sort.ahead w m) blk off dk).heap.size := by rw [size_putRow]; exact hk
  show ((putRow enc (Sort.ahead w m) blk off dk).heap ++ os)[k]? = _
  rw [Array.getElem?_append_left h1]
  show ((Sort.ahead w m).heap.modify blk _)[k]? = _
  rw [Array.getElem?_modify, if_neg (fun e => hne e.symm)]
  rfl
abbrev Nm := { x : ByteArray // x.size ≤ 100 }
instance : Inhabited Nm := ⟨⟨ByteArray.empty, by decide⟩⟩
abbrev encN (x : Nm) : Value := .string x.1
theorem encN_one : OneCell encN := fun _ => rfl
def cmpN (ch : List (Str × Int)) (x y : Nm) : Int := Lib.compareInt (chairOf ch x.1) (chairOf ch y.1)
theorem cmp_reads {W : World} {Bs g b2 blk off size : Nat} {ch : List (Str × Int)} (q0 : W.cell? ⟨Bs, 0, none⟩ = some (ptr g)) (q1 : W.cell? ⟨g, 1, none⟩ = some (.map (some b2))) (hm : MR W b2 (ints ch)) (h0 : Bs ≠ blk) (h1 : g ≠ blk) (h2 : b2 ≠ blk) :
    CmpReads Tryz.prog 130 #[.pointer (some ⟨Bs, 0, none⟩)] encN (cmpN ch) blk off size W := by
  intro m os dk hd x y
  have hl0 := World.block_lt_of_cell? _ _ q0
  have hl1 := World.block_lt_of_cell? _ _ q1
  exact seated1_calls ((World.cell?_of_block (sortWorld_heap encN W blk off m dk os hl0 h0)).trans q0) ((World.cell?_of_block (sortWorld_heap encN W blk off m dk os hl1 h1)).trans q1) (hm.same (sortWorld_heap encN W blk off m dk os hm.lt h2)) x.2 y.2
theorem len_small (n : Nat) (W : World) (h : n ≤ 12) : Calls Tryz.prog 179 #[.int .u64 n] W fun e w' => (∃ l : Int, e = .returned (.int .i64 l)) ∧ w' = W := by
  refine (Tryz.bits_Len (n : Int) W (by omega) (by omega)).mono ?_
  rintro e w' ⟨rfl, rfl⟩
  exact ⟨⟨_, rfl⟩, rfl⟩
theorem nms_of (ss : List (List UInt8)) (h : ∀ k ∈ ss, k.length ≤ 100) : ∃ d : Array Nm, d.toList.map (fun x => x.1.data.toList) = ss := by
  induction ss with
  | nil => exact ⟨#[], rfl⟩
  | cons k ss ih =>
    obtain ⟨d, hd⟩ := ih (fun q hq => h q (List.mem_cons_of_mem _ hq))
    refine ⟨(⟨⟨k.toArray⟩, by show k.toArray.size ≤ 100; simpa using h k List.mem_cons_self⟩ :: d.toList).toArray, ?_⟩
    simp [hd]
theorem cmp_swo (ch : List (Str × Int)) : SWO (ltOf (cmpN ch)) := by
  have e : ∀ x y, ltOf (cmpN ch) x y = decide (chairOf ch x.1 < chairOf ch y.1) := fun x y => by
    unfold ltOf cmpN Lib.compareInt
    split
    · next h => simp [h]
    · split
      · next h1 h2 => simp; omega
      · next h1 h2 => simp; omega
  exact ⟨fun x => by rw [e]; simp, fun x y z h1 h2 => by rw [e] at *; simp at *; omega, fun x y z h1 h2 => by rw [e] at *; simp at *; omega⟩
theorem R_of_own {w : World} {base : Nat} {v : Value} {names : List ByteArray} (h : w.ownsRow base 9 1 v names.length (names.map Value.string)) : Kd.string.R 9 w base (fun _ => True) v names := by
  refine ⟨fun _ _ => trivial, names.map Value.string, h, by simp [Kd.string, Kd.scalar], fun j p hj => ?_⟩
  show (((names.map Value.string).drop (j * 1)).take 1) = [Value.string p]
  rw [Nat.mul_one]
  have h2 : (names.map Value.string)[j]? = some (Value.string p) := by rw [List.getElem?_map, hj]; rfl
  obtain ⟨hl, he⟩ := List.getElem?_eq_some_iff.1 h2
  rw [List.drop_eq_getElem_cons hl, he]
  rfl
theorem sort_ready {W w1 : World} {Bs g b2 : Nat} {ch : List (Str × Int)} {v : Value} {ss : List (List UInt8)} (q0 : W.cell? ⟨Bs, 0, none⟩ = some (ptr g)) (q1 : W.cell? ⟨g, 1, none⟩ = some (.map (some b2))) (hm : MR W b2 (ints ch)) (hne : ch ≠ []) (hk : ∀ k ∈ keysOf ch, k.length ≤ 100)
    (hp : ss.Perm (keysOf (ints ch))) (hrow : w1.ownsRow (W.heap.size + 1) 9 1 v ss.length (ss.map encStr)) (hb : RowKit.Below W.heap.size W w1) :
    ∃ (blk cap : Nat) (d : Array Nm), v = .slice (some ⟨blk, 0, none⟩) d.size cap ∧ d.size = ch.length ∧ d.toList.map (fun x => x.1.data.toList) = ss ∧ Holds encN w1 blk 0 d ∧ W.heap.size < blk ∧ blk < w1.heap.size ∧ CmpReads Tryz.prog 130 #[.pointer (some ⟨Bs, 0, none⟩)] encN (cmpN ch) blk 0 d.size w1 := by
  rw [keys_ints] at hp
  obtain ⟨d, hd⟩ := nms_of ss (fun k hk2 => hk k (hp.mem_iff.1 hk2))
  have hlen : d.size = ss.length := by rw [← hd]; simp
  have hlc : ss.length = ch.length := by rw [hp.length_eq]; simp [keysOf]
  have hmap : ss.map encStr = (d.toList.map (·.1)).map Value.string := by
    rw [← hd]
    simp [encStr]
  have hrow2 : w1.ownsRow (W.heap.size + 1) 9 1 v (d.toList.map (·.1)).length ((d.toList.map (·.1)).map Value.string) := by
    rw [← hmap]
    have : (d.toList.map (·.1)).length = ss.length := by simp [hlen]
    rw [this]
    exact hrow
  have hR := R_of_own hrow2
  have hpos : 0 < (d.toList.map (·.1)).length := by
    have : ch.length ≠ 0 := fun e => hne (List.length_eq_zero_iff.1 e)
    simp; omega
  obtain ⟨blk, cap, rfl, hbase, hlt, _⟩ := Kd.R_form hR hpos
  have hcell := fun (i : Int) h0 hi => Kd.R_celln (ByteArray.empty) hR i h0 hi
  have e1 : (d.toList.map (·.1)).length = d.size := by simp
  have l0 := World.block_lt_of_cell? _ _ q0
  have l1 := World.block_lt_of_cell? _ _ q1
  have l2 := hm.lt
  refine ⟨blk, cap, d, by rw [e1], by omega, hd, fun j hj => ?_, by omega, hlt, cmp_reads (cell_below q0 (hb.mono (Nat.le_refl _))) (cell_below q1 (hb.mono (Nat.le_refl _))) (hm.below hb) (by show Bs ≠ blk; have : Bs < W.heap.size := l0; omega) (by show g ≠ blk; have : g < W.heap.size := l1; omega) (by omega)⟩
  have h1 := hcell j (by omega) (by simp; omega)
  rw [Int.toNat_natCast] at h1
  rw [Nat.zero_add]
  have h2 : rdOf ByteArray.empty (d.toList.map (·.1)) (j : Int) = (d[j]!).1 := by
    unfold rdOf
    rw [Int.toNat_natCast, List.getD_eq_getElem?_getD, List.getElem?_map, Array.getElem?_toList, getElem!_pos d j hj, Array.getElem?_eq_getElem hj]
    rfl
  rw [h2] at h1
  exact h1
set_option maxRecDepth 100000 in
set_option maxHeartbeats 2000000 in
/-- slices.SortedFunc over a map's keys, by chairs. -/
theorem sortedFunc_calls {W : World} {Bs g b2 : Nat} {ch : List (Str × Int)} (q0 : W.cell? ⟨Bs, 0, none⟩ = some (ptr g)) (q1 : W.cell? ⟨g, 1, none⟩ = some (.map (some b2))) (hm : MR W b2 (ints ch)) (hl : ch.length ≤ 12) (hne : ch ≠ []) (hk : ∀ k ∈ keysOf ch, k.length ≤ 100) :
    Calls Tryz.prog 128 #[.func (.func 181) #[] #[.pointer (some ⟨W.heap.size, 0, none⟩)], .func (.func 130) #[] #[.pointer (some ⟨Bs, 0, none⟩)]] (W.alloc (.cells #[.map (some b2)] 125)) fun e w' =>
    ∃ (blk cap : Nat) (d : Array Nm), e = .returned (.slice (some ⟨blk, 0, none⟩) ch.length cap) ∧ d.size = ch.length ∧ (d.toList.map (fun x => x.1.data.toList)).Perm (keysOf ch) ∧ SortedIn (ltOf (cmpN ch)) 0 ch.length d ∧ Holds encN w' blk 0 d ∧ RowKit.Below W.heap.size W w' := by
  have HC := Aside0.mk (collect_calls hm (by simp [ints]; omega))
  have HQ := Aside0.mk (And.intro q0 (And.intro q1 hm))
  have HK := Aside0.mk (And.intro hl (And.intro hne hk))
  clear q0 q1 hm hl hne hk
  go_enter Tryz.func128, Tryz.ntmps128
  go_wp2_with (first | (go_at_call 125; refine HC.out.mono ?_; rintro e w1 ⟨v, ss, rfl, hp, hrow, hnil, hb⟩; have HB1 := Aside0.mk (show RowKit.Below W.heap.size W w1 from (below_alloc (RowKit.Below.refl W.heap.size W) _).trans (hb.mono (Nat.le_succ _))); obtain ⟨blk, cap, d, rfl, hd, hds, hH, hlt, hlt2, hcr⟩ := sort_ready HQ.out.1 HQ.out.2.1 HQ.out.2.2 HK.out.2.1 HK.out.2.2 hp hrow HB1.out; have HS := Aside0.mk (And.intro hd (And.intro hds (And.intro hH (And.intro hlt (And.intro hlt2 hcr))))); have HP := Aside0.mk hp; clear hp hrow hnil hb hd hds hH hlt hlt2 hcr) | (go_at_call 180; refine (Tryz.slices_SortFunc_small_sorted encN encN_one (cmpN ch) (cmp_swo ch) 130 #[.pointer (some ⟨Bs, 0, none⟩)] blk 0 cap d w1 (enters_of Tryz.func130 (by kernel_rfl) rfl) HS.out.2.2.2.2.2 HS.out.2.2.1 (by have := HS.out.1; have := HK.out.1; omega) (fun n W h => len_small n W h)).mono ?_; rintro e w2 ⟨rfl, d', n, hperm, hsorted, rfl⟩; have HD := Aside0.mk (And.intro hperm hsorted); clear hperm hsorted))
  go_ret
  have hS := HS.out
  obtain ⟨hperm, hsorted⟩ := HD.out
  have hd' : d'.size = ch.length := hperm.1.trans hS.1
  refine ⟨blk, cap, d', by rw [hS.1]; rfl, hd', ?_, ?_, holds_putRow encN w1 blk 0 d d' hS.2.2.1 hperm.1, ?_⟩
  · have h1 := hperm.2.2
    have e1 : (d'.extract 0 d.size) = d' := by rw [← hperm.1]; simp
    have e2 : (d.extract 0 d.size) = d := by simp
    rw [e1, e2] at h1
    have h2 := h1.map (fun x : Nm => x.1.data.toList)
    rw [hS.2.1] at h2
    have h3 := HP.out
    rw [keys_ints] at h3
    exact h2.trans h3
  · rw [hS.1] at hsorted
    exact hsorted
  · have hb := HB1.out
    refine ⟨hb.os, hb.tape, hb.output, Nat.le_trans hb.size (Nat.le_of_eq (size_putRow encN w1 blk 0 d').symm), fun i hi => ?_⟩
    have h1 := sortWorld_heap encN w1 blk 0 0 d' #[] (k := i) (by have := hb.size; omega) (by have := hS.2.2.2.1; omega)
    rw [sortWorld_none] at h1
    exact h1.trans (hb.block i hi)
end Go.Proofs.YtoeeipkiadbnpaaGreatDoor.Lib10
end
