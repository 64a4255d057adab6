/- Texts that the proof of LibraryReels needs, put together in build order by this session's program (wip/tools/claimtrim.py). -/
import Derived.Test.YtoeeipkiadbnpaaGreatDoorLibraryReelsM22
import Derived.Test.YtoeeipkiadbnpaaGreatDoorLibraryReelsM23
import Derived.Test.YtoeeipkiadbnpaaGreatDoorLibraryReelsM20
import Derived.Test.YtoeeipkiadbnpaaGreatDoorLibraryReelsM24
import Derived.StillTailTactics
import Derived.Deep.RegionHeld3
section
namespace Go.Proofs.YtoeeipkiadbnpaaGreatDoor.Lib10
open Go.RowKit Go.Proofs.YtoeeipkiadbnpaaGreatDoorW.PrintWords Go.Proofs.YtoeeipkiadbnpaaGreatDoorW.PrintLast Go.Proofs.YtoeeipkiadbnpaaGreatDoorW.PrintMore
set_option linter.unusedVariables false
section
set_option maxRecDepth 100000
set_option maxHeartbeats 2000000
end
end Go.Proofs.YtoeeipkiadbnpaaGreatDoor.Lib10
end

section
namespace Go.Proofs.YtoeeipkiadbnpaaGreatDoor.Lib10
open Go.RowKit Go.Proofs.YtoeeipkiadbnpaaGreatDoorW.PrintWords Go.Proofs.YtoeeipkiadbnpaaGreatDoorW.PrintLast Go.Proofs.YtoeeipkiadbnpaaGreatDoorW.PrintMore
set_option linter.unusedVariables false
variable {B : Nat}
abbrev nl : ByteArray := ⟨#[10]⟩
section
set_option maxRecDepth 100000
set_option maxHeartbeats 2000000
end
end Go.Proofs.YtoeeipkiadbnpaaGreatDoor.Lib10
end

section
namespace Go.Proofs.YtoeeipkiadbnpaaGreatDoor.Lib10
open Go.RowKit Go.Proofs.YtoeeipkiadbnpaaGreatDoorW.PrintWords Go.Proofs.YtoeeipkiadbnpaaGreatDoorW.PrintLast Go.Proofs.YtoeeipkiadbnpaaGreatDoorW.PrintMore
set_option linter.unusedVariables false
variable {B : Nat}
section
set_option maxRecDepth 100000
set_option maxHeartbeats 2000000
theorem LibS.lower {B' : Nat} {w : World} {lg sg rg : Nat} {vj : Value} {lines : List ByteArray} {st : St} (h : LibS B' w lg sg rg vj lines st) (hb : B ≤ B') : LibS B w lg sg rg vj lines st :=
  ⟨h.cells, Nat.le_trans hb h.low, Kd.R_lower h.jr hb, h.sat.mono (fun k hk => Nat.le_trans hb hk), h.good, h.short, h.bk⟩
theorem Ran.short {w : World} {lg rg : Nat} {lines : List ByteArray} {st : St} (h : Ran B w lg rg lines st) : ∀ x ∈ lines, x.size < 4294967281 := by
  obtain ⟨sg, vj, A, m, c, h1, h2⟩ := h.at_
  exact fun x hx => by have := h1.short x hx; omega
end
end Go.Proofs.YtoeeipkiadbnpaaGreatDoor.Lib10
end

section
namespace Go.Proofs.YtoeeipkiadbnpaaGreatDoor.Lib10
open Go.RowKit Go.Proofs.YtoeeipkiadbnpaaGreatDoorW.PrintWords Go.Proofs.YtoeeipkiadbnpaaGreatDoorW.PrintLast Go.Proofs.YtoeeipkiadbnpaaGreatDoorW.PrintMore
set_option linter.unusedVariables false
variable {B : Nat}
def RecX (W : World) (g : Nat) (v : Value) (x : ReelV) : Prop := W.heap[g]? = some (.cells #[.int .i64 x.size, v, .bool (!x.off), .int .i64 x.fuse] 98 (0, 0))
theorem RecX.c0 {W : World} {g : Nat} {v : Value} {x : ReelV} (h : RecX W g v x) : W.cell? ⟨g, 0, none⟩ = some (.int .i64 x.size) := (blk_cell h 0).trans rfl
theorem RecX.c1 {W : World} {g : Nat} {v : Value} {x : ReelV} (h : RecX W g v x) : W.cell? ⟨g, 1, none⟩ = some v := (blk_cell h 1).trans rfl
theorem RecX.c2 {W : World} {g : Nat} {v : Value} {x : ReelV} (h : RecX W g v x) : W.cell? ⟨g, 2, none⟩ = some (.bool (!x.off)) := (blk_cell h 2).trans rfl
theorem RecX.c3 {W : World} {g : Nat} {v : Value} {x : ReelV} (h : RecX W g v x) : W.cell? ⟨g, 3, none⟩ = some (.int .i64 x.fuse) := (blk_cell h 3).trans rfl
theorem RecX.fz {W : World} {g : Nat} {v : Value} {x : ReelV} (h : RecX W g v x) (o : Nat) : W.frozen? ⟨g, o, none⟩ = false := blk_frozen h o
theorem RecX.set1 {W : World} {g : Nat} {v : Value} {x : ReelV} (h : RecX W g v x) (u : Value) (bs : List Int) : RecX (W.setCell ⟨g, 1, none⟩ u) g u { x with b := bs } := blk_put (cs := #[.int .i64 x.size, v, .bool (!x.off), .int .i64 x.fuse]) h 1 u rfl
theorem RecX.set2 {W : World} {g : Nat} {v : Value} {x : ReelV} (h : RecX W g v x) (o : Bool) : RecX (W.setCell ⟨g, 2, none⟩ (.bool (!o))) g v { x with off := o } := blk_put (cs := #[.int .i64 x.size, v, .bool (!x.off), .int .i64 x.fuse]) h 2 (.bool (!o)) rfl
theorem RecX.set3 {W : World} {g : Nat} {v : Value} {x : ReelV} (h : RecX W g v x) (f : Int) : RecX (W.setCell ⟨g, 3, none⟩ (.int .i64 f)) g v { x with fuse := f } := blk_put (cs := #[.int .i64 x.size, v, .bool (!x.off), .int .i64 x.fuse]) h 3 (.int .i64 f) rfl
/-- The reference's reel in memory. -/
structure RefIs (B : Nat) (W : World) (g : Nat) (A : Option Addr) (m c : Nat) (x : ReelV) : Prop where
  rc : RecX W g (.slice A m c) x
  low : B ≤ g
  row : (Kd.int .u8).R 5 W B (fun _ => True) (.slice A m c) x.b
  fine : Fine x
theorem RefIs.len {W : World} {g : Nat} {A : Option Addr} {m c : Nat} {x : ReelV} (h : RefIs B W g A m c x) : m = x.b.length ∧ m ≤ c := ⟨(Kd.R_reads' h.row).1, (Kd.R_reads' h.row).2.1⟩
theorem RefIs.below {W W' : World} {g : Nat} {A : Option Addr} {m c : Nat} {x : ReelV} (h : RefIs B W g A m c x) (hb : Below W.heap.size W W') : RefIs B W' g A m c x :=
  ⟨(hb.block g (blk_lt h.rc)).trans h.rc, h.low, Kd.R_below h.row hb, h.fine⟩
def XF (g : Nat) (A : Option Addr) (m c : Nat) (k : Nat) : Prop := k = g ∨ some k = (Value.slice A m c).ownBlock
/-- What a method of it leaves. -/
structure RefTo (B : Nat) (W : World) (g : Nat) (A : Option Addr) (m c : Nat) (x' : ReelV) (w' : World) : Prop where
  ref : ∃ A' m' c', RefIs B w' g A' m' c' x' ∧ ∀ k, XF g A' m' c' k → XF g A m c k ∨ W.heap.size ≤ k
  kept : Kept W w' (fun k => k = g)
  bel : Below B W w'
theorem RefIs.turn {W w' : World} {g : Nat} {A : Option Addr} {m c : Nat} {x x' : ReelV} (h : RefIs B W g A m c x) (ht : Turn W w' g) (hr : RecX w' g (.slice A m c) x') (hb : x'.b = x.b) (hf : Fine x') : RefIs B w' g A m c x' :=
  ⟨hr, h.low, by rw [hb]; exact R_apart h.row rfl (fun k cells hc => ht.oth k (type_ne hc h.rc (show (5 : Nat) ≠ 98 by decide))), hf⟩
theorem RefIs.turnTo {W w' : World} {g : Nat} {A : Option Addr} {m c : Nat} {x x' : ReelV} (h : RefIs B W g A m c x) (ht : Turn W w' g) (hr : RecX w' g (.slice A m c) x') (hb : x'.b = x.b) (hf : Fine x') : RefTo B W g A m c x' w' :=
  ⟨⟨A, m, c, h.turn ht hr hb hf, fun k hk => .inl hk⟩, ht.kept rfl, ht.bel.mono h.low⟩
theorem RefIs.same {W : World} {g : Nat} {A : Option Addr} {m c : Nat} {x : ReelV} (h : RefIs B W g A m c x) : RefTo B W g A m c x W := ⟨⟨A, m, c, h, fun k hk => .inl hk⟩, Kept.refl _ _, Below.refl _ _⟩
/-- The row has been copied. -/
structure Cop (B : Nat) (W w : World) (g : Nat) (A' : Option Addr) (n c' : Nat) (x : ReelV) : Prop where
  ref : RefIs B w g A' n c' x
  fresh : ∀ k, some k = (Value.slice A' n c').ownBlock → W.heap.size ≤ k
  kept : Kept W w (fun k => k = g)
  bel : Below B W w
theorem Cop.to {W w : World} {g : Nat} {A A' : Option Addr} {m c n c' : Nat} {x : ReelV} (h : Cop B W w g A' n c' x) : RefTo B W g A m c x w :=
  ⟨⟨A', n, c', h.ref, fun k hk => by
    rcases hk with rfl | hk
    · exact .inl (.inl rfl)
    · exact .inr (h.fresh k hk)⟩, h.kept, h.bel⟩
theorem cop_of {W w1 w7 : World} {g : Nat} {A : Option Addr} {m c : Nat} {x x1 : ReelV} {v7 : Value} {bs : List Int} (h : RefIs B W g A m c x) (hr1 : RecX w1 g (.slice A m c) x1) (ht : Turn W w1 g) (hb7 : Below w1.heap.size w1 w7) (hq7 : (Kd.int .u8).R 5 w7 w1.heap.size (fun j => w1.heap.size ≤ j) v7 bs) (hf : Fine { x1 with b := bs }) :
    ∃ A7 c7, v7 = .slice A7 bs.length c7 ∧ Cop B W (w7.setCell ⟨g, 1, none⟩ v7) g A7 bs.length c7 { x1 with b := bs } := by
  obtain ⟨A7, c7, rfl⟩ := Kd.R_slice hq7
  have hg : g < W.heap.size := blk_lt h.rc
  have hsz := ht.sz
  have hr7 : RecX w7 g (.slice A m c) x1 := (hb7.block g (by omega)).trans hr1
  have hB : B ≤ w1.heap.size := by have := h.low; omega
  refine ⟨A7, c7, rfl, ⟨hr7.set1 _ bs, h.low, ?_, hf⟩, fun k hk => ?_, ?_, ?_⟩
  · exact R_apart (Kd.R_mono (Kd.R_lower hq7 hB) (fun _ _ => trivial)) rfl (fun k cells hc => Below.heap_setCell w7 _ _ k (type_ne hc hr7 (show (5 : Nat) ≠ 98 by decide)))
  · have := hq7.1 k hk.symm
    omega
  · refine ⟨by rw [World.size_setCell]; have := hb7.size; omega, fun k hk hn => ?_⟩
    rw [Below.heap_setCell w7 _ _ k hn, hb7.block k (by omega), ht.oth k hn]
  · exact ((ht.bel.mono h.low).trans (hb7.mono hB)).setCell h.low _
theorem Cop.set {W w : World} {g : Nat} {blk n c' : Nat} {x : ReelV} (h : Cop B W w g (some ⟨blk, 0, none⟩) n c' x) {i : Nat} (hi : i < n) (v : Int) : Cop B W (w.setCell ⟨blk, i, none⟩ (.int .u8 v)) g (some ⟨blk, 0, none⟩) n c' { x with b := x.b.set i v } := by
  obtain ⟨cells, hcb⟩ := own_type h.ref.row blk rfl
  have hne : blk ≠ g := type_ne hcb h.ref.rc (show (5 : Nat) ≠ 98 by decide)
  have hfr := h.fresh blk rfl
  have hr := (R_set1 h.ref.row i hi v).1
  have hf := h.ref.fine
  refine ⟨⟨(Below.heap_setCell w _ _ g hne.symm).trans h.ref.rc, h.ref.low, hr, ⟨hf.size0, hf.size1, by show (((x.b.set i v).length : Nat) : Int) ≤ x.size; rw [List.length_set]; exact hf.len, hf.fuse0, hf.fuse1⟩⟩, h.fresh, ?_, ?_⟩
  · refine ⟨by rw [World.size_setCell]; exact h.kept.1, fun k hk hn => ?_⟩
    rw [Below.heap_setCell w _ _ k (by show k ≠ blk; omega), h.kept.2 k hk hn]
  · exact h.bel.setCell (Kd.R_base h.ref.row blk rfl) _
theorem cop_blk {W w : World} {g : Nat} {A' : Option Addr} {n c' : Nat} {x : ReelV} (h : Cop B W w g A' n c' x) (hn : 0 < n) : ∃ blk, A' = some ⟨blk, 0, none⟩ := by
  obtain ⟨g, cap, e, _⟩ := Kd.R_form h.ref.row (by have := h.ref.len.1; omega)
  injection e with e _ _
  exact ⟨g, e⟩
theorem cop_facts {W w : World} {g : Nat} {blk n c' : Nat} {x : ReelV} (h : Cop B W w g (some ⟨blk, 0, none⟩) n c' x) {i : Nat} (hi : i < n) : w.cell? ⟨g, 1, none⟩ = some (.slice (some ⟨blk, 0, none⟩) n c') ∧ w.cell? ⟨blk, i, none⟩ = some (.int .u8 (x.b.getD i 0)) ∧ w.frozen? ⟨blk, i, none⟩ = false := by
  have hl := h.ref.len.1
  obtain ⟨h1, h2⟩ := Kd.R_celln 0 h.ref.row (i : Int) (by omega) (by omega)
  rw [Int.toNat_natCast] at h1 h2
  refine ⟨h.ref.rc.c1, ?_, h2⟩
  rw [h1]
  simp [rdOf]
theorem one_reads (W : World) (x : Int) : (Kd.int .u8).C (W.alloc (.cells #[.int .u8 x] 5)) (some ⟨W.heap.size, 0, none⟩) 1 [x] := by
  have hn := World.alloc_heap_new W (.cells #[.int .u8 x] 5)
  refine Kd.C_of_reads (enc := Value.int .u8) (d := (0 : Int)) (h1 := fun _ => rfl) ⟨rfl, by omega, fun _ => ⟨_, rfl, fun j hj => ?_⟩⟩
  rw [add_plain]
  first | rw [blk_cell hn j] | (rw [blk_cell hn (0 + j)])
  match j, hj with
  | 0, _ => rfl
theorem ref_chain {W w w' : World} {g : Nat} {A A1 : Option Addr} {m c m1 c1 : Nat} {x : ReelV} (hx : ∀ k, XF g A1 m1 c1 k → XF g A m c k ∨ W.heap.size ≤ k) (hk : Kept W w (fun k => k = g)) (hb : Below B W w) (ht : RefTo B w g A1 m1 c1 x w') : RefTo B W g A m c x w' := by
  obtain ⟨A2, m2, c2, hr, hf⟩ := ht.ref
  refine ⟨⟨A2, m2, c2, hr, fun k h => ?_⟩, hk.then_ ht.kept (fun j hj => .inl hj), hb.trans ht.bel⟩
  rcases hf k h with h | h
  · exact hx k h
  · exact .inr (Nat.le_trans hk.1 h)
section
set_option maxRecDepth 100000
set_option maxHeartbeats 2000000
theorem xnew_ok (size : Int) (W : World) (h0 : 1 ≤ size) (h1 : size ≤ 100000) : Calls Tryz.prog 25 #[.int .i64 size] W fun e w' => e = .returned (.tuple #[ptr W.heap.size, .int .i64 0]) ∧ RefIs W.heap.size w' W.heap.size none 0 0 (newReel size) ∧ W.heap.size < w'.heap.size ∧ Below W.heap.size W w' := by
  go_enter Tryz.func25, Tryz.ntmps25
  go_wp2
  go_ret2
  have hn : RecX (W.alloc (.cells #[.int .i64 size, .slice none 0 0, .bool true, .int .i64 (-1)] 98)) W.heap.size (.slice none 0 0) (newReel size) := World.alloc_heap_new W _
  exact ⟨rfl, ⟨hn, Nat.le_refl _, Kd.R_nil _ _ _ _ _, ⟨h0, h1, by show (0 : Int) ≤ size; omega, by show (-1 : Int) ≤ -1; decide, by show (-1 : Int) ≤ _; decide⟩⟩, blk_lt hn, below_alloc (Below.refl _ _) _⟩
theorem xnew_no (size : Int) (W : World) (h : size < 1 ∨ 100000 < size) : Calls Tryz.prog 25 #[.int .i64 size] W fun e w' => e = .returned (.tuple #[.pointer none, .int .i64 2]) ∧ W = w' := by
  by_cases c : size < 1
  · clear h
    go_enter Tryz.func25, Tryz.ntmps25
    go_wp2
    go_ret2
    exact ⟨rfl, rfl⟩
  · have c2 : 100000 < size := by omega
    clear h
    go_enter Tryz.func25, Tryz.ntmps25
    go_wp2
    go_ret2
    exact ⟨rfl, rfl⟩
theorem spent_yes {W : World} {g : Nat} {v : Value} {x : ReelV} (h : RecX W g v x) (hf : x.fuse = 0) : Calls Tryz.prog 77 #[ptr g] W fun e w' => e = .returned (.bool true) ∧ RecX w' g v { x with off := true } ∧ Turn W w' g := by
  have q := h.c3
  rw [hf] at q
  have q2 := h.c2
  have z2 := h.fz 2
  have H := Aside0.mk h
  clear h hf
  go_enter Tryz.func77, Tryz.ntmps77
  go_wp2
  go_ret
  exact ⟨rfl, H.out.set2 true, Turn.set _ _ _ _⟩
theorem spent_no {W : World} {g : Nat} {v : Value} {x : ReelV} (h : RecX W g v x) (hf : x.fuse ≠ 0) (h0 : -1 ≤ x.fuse) (h1 : x.fuse ≤ 9223372036854775807) : Calls Tryz.prog 77 #[ptr g] W fun e w' => e = .returned (.bool false) ∧ RecX w' g v { x with fuse := less x.fuse } ∧ Turn W w' g := by
  have q := h.c3
  have z := h.fz 3
  have H := Aside0.mk h
  generalize hfu : x.fuse = f at q h0 h1 hf
  have HF := Aside0.mk hfu
  clear h hfu
  have hf' : (f == 0) = false := beq_eq_false_iff_ne.2 hf
  have hw : wrap64 (f - 1) = f - 1 := by unfold wrap64; omega
  by_cases c : 0 < f
  · have e1 : less f = f - 1 := by unfold less; rw [if_neg (by omega)]
    rw [e1]
    clear e1
    go_enter Tryz.func77, Tryz.ntmps77
    go_wp2
    go_ret
    exact ⟨rfl, H.out.set3 (f - 1), Turn.set _ _ _ _⟩
  · have e1 : less f = f := by unfold less; split <;> omega
    rw [e1]
    clear e1
    go_enter Tryz.func77, Tryz.ntmps77
    go_wp2
    go_ret
    have hx : ({ x with fuse := f } : ReelV) = x := by rw [← HF.out]
    exact ⟨rfl, by rw [hx]; exact H.out, Turn.refl _ _⟩
theorem xfuse_calls {W : World} {g : Nat} {A : Option Addr} {m c : Nat} {x : ReelV} (h : RefIs B W g A m c x) (k : Int) (hk : k ≤ 9223372036854775807) : Calls Tryz.prog 52 #[ptr g, .int .i64 k] W fun e w' => (∃ u, e = .returned u) ∧ RefTo B W g A m c (fuseV x k) w' := by
  have z3 := h.rc.fz 3
  have q3 := h.rc.c3
  have H := Aside0.mk h
  have HF := Aside0.mk (show Fine (fuseV x k) from ⟨h.fine.size0, h.fine.size1, h.fine.len, by unfold fuseV; simp only []; split <;> omega, by unfold fuseV; simp only []; split <;> omega⟩)
  clear h
  have e1 : fuseV x k = { x with fuse := max k (-1) } := by
    unfold fuseV
    have : (if k < -1 then -1 else k) = max k (-1) := by split <;> omega
    rw [this]
  rw [e1] at HF ⊢
  clear e1
  go_enter Tryz.func52, Tryz.ntmps52
  go_wp2
  go_end0
  exact ⟨⟨_, rfl⟩, H.out.turnTo (Turn.set _ _ _ _) (H.out.rc.set3 (max k (-1))) rfl HF.out⟩
theorem xpower_calls {W : World} {g : Nat} {A : Option Addr} {m c : Nat} {x : ReelV} (h : RefIs B W g A m c x) : Calls Tryz.prog 53 #[ptr g] W fun e w' => (∃ u, e = .returned u) ∧ RefTo B W g A m c (powerV x) w' := by
  have z2 := h.rc.fz 2
  have z3 := h.rc.fz 3
  have q2 := h.rc.c2
  have q3 := h.rc.c3
  have H := Aside0.mk h
  clear h
  go_enter Tryz.func53, Tryz.ntmps53
  go_wp2
  go_end0
  exact ⟨⟨_, rfl⟩, H.out.turnTo ((Turn.set _ _ _ _).trans (Turn.set _ _ _ _)) ((H.out.rc.set2 false).set3 (-1)) rfl ⟨H.out.fine.size0, H.out.fine.size1, H.out.fine.len, by show (-1 : Int) ≤ -1; decide, by show (-1 : Int) ≤ 9223372036854775807; decide⟩⟩
theorem xcut_calls {W : World} {g : Nat} {A : Option Addr} {m c : Nat} {x : ReelV} (h : RefIs B W g A m c x) (n : Int) : Calls Tryz.prog 50 #[ptr g, .int .i64 n] W fun e w' => e = .returned (.int .i64 (cutV x n).1) ∧ RefTo B W g A m c (cutV x n).2 w' := by
  obtain ⟨hm, hc⟩ := h.len
  have q2 := h.rc.c2
  have q1 := h.rc.c1
  have H := Aside0.mk h
  have hln := h.fine.len
  have hs1 := h.fine.size1
  unfold cutV
  by_cases ho : x.off = true
  · rw [if_pos ho]
    rw [ho] at q2
    clear h ho
    go_enter Tryz.func50, Tryz.ntmps50
    go_wp2
    go_ret
    exact ⟨rfl, H.out.same⟩
  · rw [if_neg ho]
    have ho' : x.off = false := by simpa using ho
    rw [ho'] at q2
    by_cases hn : n < 0 ∨ (x.b.length : Int) < n
    · rw [if_pos hn]
      rw [← hm] at hn
      by_cases hn0 : n < 0
      · clear h ho ho' hn hm
        go_enter Tryz.func50, Tryz.ntmps50
        go_wp2
        go_ret
        exact ⟨rfl, H.out.same⟩
      · have hn1 : (m : Int) < n := by omega
        clear h ho ho' hn hm
        go_enter Tryz.func50, Tryz.ntmps50
        go_wp2
        go_ret
        exact ⟨rfl, H.out.same⟩
    · rw [if_neg hn]
      obtain ⟨q, rfl⟩ : ∃ q : Nat, n = q := ⟨n.toNat, by omega⟩
      rw [Int.toNat_natCast]
      have i0 : ¬ ((q : Int) < 0) := by omega
      have i1 : ¬ ((m : Int) < (q : Int)) := by omega
      have hqc : q ≤ c := by omega
      have HLn := Aside0.mk (show q ≤ 100000 by omega)
      have hq1 : (W.alloc (.cells #[] 5)).cell? ⟨g, 1, none⟩ = some (.slice A m c) := (cell_alloc (blk_lt h.rc) 1).trans q1
      have HE := Aside0.mk (R_empty W)
      have HB := Aside0.mk (below_alloc (Below.refl W.heap.size W) (.cells #[] 5))
      have HC := Aside0.mk (show (Kd.int .u8).C (W.alloc (.cells #[] 5)) A q (x.b.take q) by
        have h2 := Kd.C_below (Kd.R_reads' (Kd.R_take (m := q) h.row (by omega))).2.2 HB.out
        rw [show (x.b.take q).length = q by rw [List.length_take]; omega] at h2
        exact h2)
      have HFn := Aside0.mk (show Fine { x with b := x.b.take q } from ⟨h.fine.size0, h.fine.size1, by show (((x.b.take q).length : Nat) : Int) ≤ x.size; rw [List.length_take]; omega, h.fine.fuse0, h.fine.fuse1⟩)
      clear h ho ho' hn hm hln hs1
      go_enter Tryz.func50, Tryz.ntmps50
      go_wp2_with (at_builtin; go_loud (refine Kd.R_append_rows (Kd.int .u8) (Rr := (Kd.int .u8).K (W.alloc (.cells #[] 5))) (w0 := W) W.heap.size rfl (.tmp 24) (.tmp 30) 45 5 (.int .u8 0) 1 rfl Tryz.underlying45 info5 rfl Nat.one_pos (by decide) (.slice (some ⟨W.heap.size, 0, none⟩) 0 0) [] (x.b.take q) A q c (fun j => W.heap.size ≤ j) (fun _ => False) rfl rfl HE.out HC.out (fun _ _ h => h) (fun _ hk => hk.elim) (fun j hj => by have := HB.out.size; omega) HB.out HB.out.size (by have := HLn.out; simp; omega) ?_); intro v7 w7 hq7 hb7 hg7 hat7; have HQ7 := Aside0.mk hq7; have HB7 := Aside0.mk hb7; have hw7 : RecX w7 g (.slice A m c) x := (hb7.block g (blk_lt H.out.rc)).trans H.out.rc; have c7 := hw7.c1; have z7 := hw7.fz 1; obtain ⟨A7, k7, rfl, hcp⟩ := cop_of H.out H.out.rc (Turn.refl W g) hb7 (show (Kd.int .u8).R 5 w7 W.heap.size (fun j => W.heap.size ≤ j) v7 (x.b.take q) from by simpa using hq7) HFn.out; have HCp := Aside0.mk hcp; clear hw7 hcp; clear hq7 hb7 hg7 hat7)
      go_ret
      rw [← List.length_take]
      exact ⟨rfl, HCp.out.to⟩
theorem xput_calls {W : World} {g : Nat} {A : Option Addr} {m c : Nat} {x : ReelV} (h : RefIs B W g A m c x) (i b : Int) : Calls Tryz.prog 49 #[ptr g, .int .i64 i, .int .u8 b] W fun e w' => e = .returned (.int .i64 (putV x i b).1) ∧ RefTo B W g A m c (putV x i b).2 w' := by
  obtain ⟨hm, hc⟩ := h.len
  have q2 := h.rc.c2
  have q1 := h.rc.c1
  have H := Aside0.mk h
  have hln := h.fine.len
  have hs1 := h.fine.size1
  unfold putV
  by_cases ho : x.off = true
  · rw [if_pos ho]
    rw [ho] at q2
    clear h ho
    go_enter Tryz.func49, Tryz.ntmps49
    go_wp2
    go_ret
    exact ⟨rfl, H.out.same⟩
  · rw [if_neg ho]
    have ho' : x.off = false := by simpa using ho
    rw [ho'] at q2
    by_cases hn : i < 0 ∨ (x.b.length : Int) ≤ i
    · rw [if_pos hn]
      rw [← hm] at hn
      by_cases hn0 : i < 0
      · clear h ho ho' hn hm
        go_enter Tryz.func49, Tryz.ntmps49
        go_wp2
        go_ret
        exact ⟨rfl, H.out.same⟩
      · have hn1 : (m : Int) ≤ i := by omega
        clear h ho ho' hn hm
        go_enter Tryz.func49, Tryz.ntmps49
        go_wp2
        go_ret
        exact ⟨rfl, H.out.same⟩
    · rw [if_neg hn]
      obtain ⟨q, rfl⟩ : ∃ q : Nat, i = q := ⟨i.toNat, by omega⟩
      rw [Int.toNat_natCast]
      have i0 : ¬ ((q : Int) < 0) := by omega
      have i1 : ¬ ((m : Int) ≤ (q : Int)) := by omega
      by_cases hf : x.fuse = 0
      · rw [if_pos hf]
        have HSp := Aside0.mk (spent_yes h.rc hf)
        clear h ho ho' hn hm hf
        go_enter Tryz.func49, Tryz.ntmps49
        go_wp2_with (go_at_call 77; refine HSp.out.mono ?_; rintro e w1 ⟨rfl, hr, ht⟩; have HR1 := Aside0.mk hr; have HT1 := Aside0.mk ht; clear hr ht)
        go_ret
        exact ⟨rfl, H.out.turnTo HT1.out HR1.out rfl ⟨H.out.fine.size0, H.out.fine.size1, H.out.fine.len, H.out.fine.fuse0, H.out.fine.fuse1⟩⟩
      · rw [if_neg hf]
        have HSp := Aside0.mk (spent_no h.rc hf h.fine.fuse0 h.fine.fuse1)
        have HLn := Aside0.mk (show m ≤ 100000 ∧ m = x.b.length ∧ q < m by omega)
        have hlr := less_range h.fine.fuse0 h.fine.fuse1 hf
        have HFn := Aside0.mk (show Fine { x with fuse := less x.fuse, b := x.b } from ⟨h.fine.size0, h.fine.size1, h.fine.len, hlr.1, hlr.2⟩)
        clear h ho ho' hn hm hf hln hs1 hlr
        go_enter Tryz.func49, Tryz.ntmps49
        go_wp2_with (first | (go_at_call 77; refine HSp.out.mono ?_; rintro e w1 ⟨rfl, hr, ht⟩; have HR1 := Aside0.mk hr; have HT1 := Aside0.mk ht; have c1 := hr.c1; have hq1 : (w1.alloc (.cells #[] 5)).cell? ⟨g, 1, none⟩ = some (.slice A m c) := (cell_alloc (blk_lt hr) 1).trans c1; have HE := Aside0.mk (R_empty w1); have HB := Aside0.mk (below_alloc (Below.refl w1.heap.size w1) (.cells #[] 5)); have HC := Aside0.mk (show (Kd.int .u8).C (w1.alloc (.cells #[] 5)) A m x.b from by rw [HLn.out.2.1]; exact Kd.C_below (Kd.R_reads' (H.out.turn (x' := { x with fuse := less x.fuse }) ht hr rfl HFn.out).row).2.2 HB.out); clear hr ht) | (at_builtin; go_loud (refine Kd.R_append_rows (Kd.int .u8) (Rr := (Kd.int .u8).K (w1.alloc (.cells #[] 5))) (w0 := w1) w1.heap.size rfl (.tmp 29) (.tmp 33) 45 5 (.int .u8 0) 1 rfl Tryz.underlying45 info5 rfl Nat.one_pos (by decide) (.slice (some ⟨w1.heap.size, 0, none⟩) 0 0) [] x.b A m c (fun j => w1.heap.size ≤ j) (fun _ => False) rfl rfl HE.out HC.out (fun _ _ h => h) (fun _ hk => hk.elim) (fun j hj => by have := HB.out.size; omega) HB.out HB.out.size (by have := HLn.out; simp; omega) ?_); intro v7 w7 hq7 hb7 hg7 hat7; have HQ7 := Aside0.mk hq7; have HB7 := Aside0.mk hb7; have hw7 : RecX w7 g (.slice A m c) { x with fuse := less x.fuse } := (hb7.block g (blk_lt HR1.out)).trans HR1.out; have d7 := hw7.c1; have z7 := hw7.fz 1; obtain ⟨A7, k7, rfl, hcp⟩ := cop_of H.out HR1.out HT1.out hb7 (show (Kd.int .u8).R 5 w7 w1.heap.size (fun j => w1.heap.size ≤ j) v7 x.b from by simpa using hq7) HFn.out; obtain ⟨bk, rfl⟩ := cop_blk hcp (by have := HLn.out; omega); rw [← HLn.out.2.1] at hcp ⊢; obtain ⟨f1, f2, f3⟩ := cop_facts hcp HLn.out.2.2; have HCp := Aside0.mk hcp; clear hw7 hcp; clear hq7 hb7 hg7 hat7))
        go_ret
        exact ⟨rfl, (HCp.out.set (by have := HLn.out; omega) b).to⟩
theorem xflip_no {W : World} {g : Nat} {A : Option Addr} {m c : Nat} {x : ReelV} (h : RefIs B W g A m c x) (i b : Int) (hno : ¬ (0 ≤ i ∧ i < (m : Int) ∧ 0 ≤ b ∧ b < 8)) : Calls Tryz.prog 51 #[ptr g, .int .i64 i, .int .i64 b] W fun e w' => (∃ u, e = .returned u) ∧ W = w' := by
  have q1 := h.rc.c1
  clear h
  by_cases h1 : 0 ≤ i
  · by_cases h2 : i < (m : Int)
    · by_cases h3 : 0 ≤ b
      · have h4 : ¬ b ≤ 7 := fun h4 => hno ⟨h1, h2, h3, by omega⟩
        clear hno
        go_enter Tryz.func51, Tryz.ntmps51
        go_wp2
        go_end0
        exact ⟨⟨_, rfl⟩, rfl⟩
      · clear hno
        go_enter Tryz.func51, Tryz.ntmps51
        go_wp2
        go_end0
        exact ⟨⟨_, rfl⟩, rfl⟩
    · clear hno
      go_enter Tryz.func51, Tryz.ntmps51
      go_wp2
      go_end0
      exact ⟨⟨_, rfl⟩, rfl⟩
  · clear hno
    go_enter Tryz.func51, Tryz.ntmps51
    go_wp2
    go_end0
    exact ⟨⟨_, rfl⟩, rfl⟩
theorem Cop.drew {W w : World} {g : Nat} {A' : Option Addr} {n c' : Nat} {x : ReelV} (h : Cop B W w g A' n c' x) : Cop B W w.drew g A' n c' x :=
  ⟨h.ref.below (w.heap.size.le_refl |> fun _ => ⟨rfl, rfl, rfl, Nat.le_refl _, fun _ _ => rfl⟩), h.fresh, ⟨h.kept.1, h.kept.2⟩, h.bel.trans ⟨rfl, rfl, rfl, Nat.le_refl _, fun _ _ => rfl⟩⟩
theorem xflip_calls {W : World} {g : Nat} {A : Option Addr} {m c : Nat} {x : ReelV} (h : RefIs B W g A m c x) (i b : Int) : Calls Tryz.prog 51 #[ptr g, .int .i64 i, .int .i64 b] W fun e w' => (∃ u, e = .returned u) ∧ RefTo B W g A m c (flipV x i b) w' := by
  obtain ⟨hm, hc⟩ := h.len
  unfold flipV
  by_cases hc0 : 0 ≤ i ∧ i < (x.b.length : Int) ∧ 0 ≤ b ∧ b < 8
  · rw [if_pos hc0]
    obtain ⟨h1, h2, h3, h4⟩ := hc0
    obtain ⟨q, rfl⟩ : ∃ q : Nat, i = q := ⟨i.toNat, by omega⟩
    rw [Int.toNat_natCast]
    have q1 := h.rc.c1
    have hln := h.fine.len
    have hs1 := h.fine.size1
    have HLn := Aside0.mk (show m ≤ 100000 ∧ m = x.b.length ∧ q < m by omega)
    have hq1 : (W.alloc (.cells #[] 5)).cell? ⟨g, 1, none⟩ = some (.slice A m c) := (cell_alloc (blk_lt h.rc) 1).trans q1
    have HE := Aside0.mk (R_empty W)
    have HB := Aside0.mk (below_alloc (Below.refl W.heap.size W) (.cells #[] 5))
    have HC := Aside0.mk (show (Kd.int .u8).C (W.alloc (.cells #[] 5)) A m x.b by rw [HLn.out.2.1]; exact Kd.C_below (Kd.R_reads' h.row).2.2 HB.out)
    have H := Aside0.mk h
    have i0 : (0 : Int) ≤ (q : Int) := by omega
    have i1 : (q : Int) < (m : Int) := by omega
    have i2 : b ≤ 7 := by omega
    clear h hm h1 h2 hln hs1
    go_enter Tryz.func51, Tryz.ntmps51
    go_wp2_with (at_builtin; go_loud (refine Kd.R_append_rows (Kd.int .u8) (Rr := (Kd.int .u8).K (W.alloc (.cells #[] 5))) (w0 := W) W.heap.size rfl (.tmp 26) (.tmp 30) 45 5 (.int .u8 0) 1 rfl Tryz.underlying45 info5 rfl Nat.one_pos (by decide) (.slice (some ⟨W.heap.size, 0, none⟩) 0 0) [] x.b A m c (fun j => W.heap.size ≤ j) (fun _ => False) rfl rfl HE.out HC.out (fun _ _ h => h) (fun _ hk => hk.elim) (fun j hj => by have := HB.out.size; omega) HB.out HB.out.size (by have := HLn.out; simp; omega) ?_); intro v7 w7 hq7 hb7 hg7 hat7; have HQ7 := Aside0.mk hq7; have HB7 := Aside0.mk hb7; have hw7 : RecX w7 g (.slice A m c) x := (hb7.block g (blk_lt H.out.rc)).trans H.out.rc; have d7 := hw7.c1; have z7 := hw7.fz 1; obtain ⟨A7, k7, rfl, hcp⟩ := cop_of H.out H.out.rc (Turn.refl W g) hb7 (show (Kd.int .u8).R 5 w7 W.heap.size (fun j => W.heap.size ≤ j) v7 x.b from by simpa using hq7) H.out.fine; obtain ⟨bk, rfl⟩ := cop_blk hcp (by have := HLn.out; omega); rw [← HLn.out.2.1] at hcp ⊢; obtain ⟨f1, f2, f3⟩ := cop_facts hcp HLn.out.2.2; have HCp := Aside0.mk hcp; clear hw7 hcp; clear hq7 hb7 hg7 hat7)
    obtain ⟨w8, hw8⟩ : ∃ w, w = w7.setCell ⟨g, 1, none⟩ (.slice (some ⟨bk, 0, none⟩) m k7) := ⟨_, rfl⟩
    rw [← hw8] at HCp f1 f2 f3 ⊢
    clear hw8 d7 z7 q1 hq1
    have HC8 := Aside0.mk HCp.out.drew
    obtain ⟨v, hv⟩ : ∃ v, v = x.b.getD q 0 := ⟨_, rfl⟩
    have HV := Aside0.mk hv
    have f2' : w8.cell? ⟨bk, q, none⟩ = some (.int .u8 v) := by rw [hv]; exact f2
    clear f2 hv
    go_still_tail 11, (by kernel_rfl)
    change wpList _ _ _ _ _ w8.drew
    obtain ⟨w9, hw9⟩ : ∃ w, w = w8.drew := ⟨_, rfl⟩
    have g1 : w9.cell? ⟨g, 1, none⟩ = some (.slice (some ⟨bk, 0, none⟩) m k7) := by rw [hw9]; exact f1
    have g2 : w9.cell? ⟨bk, q, none⟩ = some (.int .u8 v) := by rw [hw9]; exact f2'
    have g3 : w9.frozen? ⟨bk, q, none⟩ = false := by rw [hw9]; exact f3
    rw [← hw9] at HC8 ⊢
    clear hw9 f1 f2' f3
    go_wp2_with fail
    go_end0
    rw [← HV.out]
    exact ⟨⟨_, rfl⟩, (HC8.out.set HLn.out.2.2 (flipB v b)).to⟩
  · rw [if_neg hc0]
    refine (xflip_no h i b (fun c => hc0 ⟨c.1, by omega, c.2.2⟩)).mono ?_
    rintro e w' ⟨hu, rfl⟩
    exact ⟨hu, h.same⟩
theorem xappend_off {W : World} {g : Nat} {A : Option Addr} {m c : Nat} {x : ReelV} (h : RefIs B W g A m c x) (ho : x.off = true) (v : Value) : Calls Tryz.prog 48 #[ptr g, v] W fun e w' => e = .returned (.int .i64 8) ∧ RefTo B W g A m c x w' := by
  have q2 := h.rc.c2
  rw [ho] at q2
  have H := Aside0.mk h
  clear h ho
  go_enter Tryz.func48, Tryz.ntmps48
  go_wp2
  go_ret
  exact ⟨rfl, H.out.same⟩
theorem xappend_on {W : World} {g : Nat} {A A6 : Option Addr} {m c n c6 : Nat} {x : ReelV} {bs : List Int} (h : RefIs B W g A m c x) (ho : x.off = false) (hn : bs.length = n) (hnc : n ≤ c6) (hC : ∀ W', Kept W W' (fun k => k = g) → (Kd.int .u8).C W' A6 n bs) :
    Calls Tryz.prog 48 #[ptr g, .slice A6 n c6] W fun e w' => e = .returned (.int .i64 (appendV x bs).1) ∧ RefTo B W g A m c (appendV x bs).2 w' := by
  have q2 := h.rc.c2
  rw [ho] at q2
  have H := Aside0.mk h
  have HO := Aside0.mk ho
  have HN := Aside0.mk hn
  have H5 := Aside0.mk hC
  have hn64 : n ≤ 9223372036854775807 := (hC W (Kept.refl W _)).2.1
  obtain ⟨r, hr⟩ : ∃ r, r = appendV x bs := ⟨_, rfl⟩
  rw [← hr]
  have HRs := Aside0.mk hr
  clear h ho hn hC hr
  go_enter Tryz.func48, Tryz.ntmps48
  go_wp2_with (fail)
  clear q2
  go_loopw [14] (fun v14 wr => ∃ (k : Nat) (y : ReelV) (A1 : Option Addr) (m1 c1 : Nat), k ≤ n ∧ v14 = .int .i64 k ∧ Aside0 (r = appendV y (bs.drop k)) ∧ Aside0 (y.off = false) ∧ Aside0 (RefIs B wr g A1 m1 c1 y) ∧ Aside0 (∀ k, XF g A1 m1 c1 k → XF g A m c k ∨ W.heap.size ≤ k) ∧ Aside0 (Kept W wr (fun k => k = g)) ∧ Aside0 (Below B W wr)) (fun v14 _ => n - (intOf v14).toNat)
  case atStart => exact ⟨0, x, A, m, c, Nat.zero_le _, rfl, HRs, HO, H, ⟨fun k hk => .inl hk⟩, ⟨Kept.refl _ _⟩, ⟨Below.refl _ _⟩⟩
  case round =>
    obtain ⟨k, y, A1, m1, c1, hk, rfl, hA, hoff, href, hxf, hkept, hbel⟩ := hrel
    by_cases hlt : k < n
    · have hCw := H5.out wr hkept.out
      have i0 : (0 : Int) ≤ (k : Int) := by omega
      have i1 : (k : Int) < (n : Int) := by omega
      obtain ⟨z, hz⟩ : ∃ z, z = rd bs (k : Int) := ⟨_, rfl⟩
      have hdrop : bs.drop k = z :: bs.drop (k + 1) := by
        have hkb : k < bs.length := by rw [HN.out]; exact hlt
        rw [List.drop_eq_getElem_cons hkb, hz]
        unfold rd
        rw [Int.toNat_natCast]
        simp [hkb]
      obtain ⟨ad, e167, hx0⟩ := Kd.at_int hCw (k : Int) i0 i1
      rw [← hz] at hx0
      have hA2 := hA.out
      rw [hdrop, appendV] at hA2
      clear hdrop hCw hz
      cases e167
      rw [Int.toNat_natCast] at hx0
      replace i0 := eq_true i0
      replace i1 := eq_true i1
      have d2 := href.out.rc.c2
      have d3 := href.out.rc.c3
      have z2 := href.out.rc.fz 2
      have hml := href.out.len
      have hfl := href.out.fine.len
      have hfs := href.out.fine.size1
      by_cases hf : y.fuse = 0
      · rw [if_pos hf] at hA2
        rw [hf] at d3
        have HA2 := Aside0.mk hA2
        clear hf hA2 hml hfl hfs
        go_wp2_with (fail)
        go_ret
        rw [HA2.out]
        have ht : RefTo B wr g A1 m1 c1 { y with off := true } (wr.setCell ⟨g, 2, none⟩ (.bool false)) := href.out.turnTo (Turn.set _ _ _ _) (href.out.rc.set2 true) rfl ⟨href.out.fine.size0, href.out.fine.size1, href.out.fine.len, href.out.fine.fuse0, href.out.fine.fuse1⟩
        exact ⟨rfl, ref_chain hxf.out hkept.out hbel.out ht⟩
      · rw [if_neg hf] at hA2
        have hfz : (y.fuse == 0) = false := beq_eq_false_iff_ne.2 hf
        have d0 := href.out.rc.c0
        have d1 := href.out.rc.c1
        by_cases hfull : (y.b.length : Int) = y.size
        · rw [if_pos hfull] at hA2
          have HA2 := Aside0.mk hA2
          have j1 : y.size ≤ (m1 : Int) := by omega
          clear hf hA2 hml hfl hfs hfull
          go_wp2_with (fail)
          go_quiet (fail)
          go_wp2_with (fail)
          go_ret
          rw [HA2.out]
          exact ⟨rfl, ref_chain hxf.out hkept.out hbel.out ⟨⟨A1, m1, c1, href.out.below (drew_below wr nq), fun k hk => .inl hk⟩, Kept.of_below (drew_below wr nq) _, (drew_below wr nq).mono (by have := href.out.low; have := blk_lt href.out.rc; omega)⟩⟩
        · rw [if_neg hfull] at hA2
          have HA2 := Aside0.mk hA2
          have j1 : ¬ (y.size ≤ (m1 : Int)) := by omega
          have HLn := Aside0.mk (show m1 ≤ 100000 ∧ m1 = y.b.length ∧ (y.b.length : Int) < y.size by omega)
          have hlr := less_range href.out.fine.fuse0 href.out.fine.fuse1 hf
          have HFn := Aside0.mk (show Fine { y with fuse := less y.fuse, b := y.b } from ⟨href.out.fine.size0, href.out.fine.size1, href.out.fine.len, hlr.1, hlr.2⟩)
          have HFm := Aside0.mk (show Fine { y with fuse := less y.fuse, b := y.b ++ [z] } from ⟨href.out.fine.size0, href.out.fine.size1, by show (((y.b ++ [z]).length : Nat) : Int) ≤ y.size; rw [List.length_append, List.length_singleton]; omega, hlr.1, hlr.2⟩)
          have HSp := Aside0.mk (fun nq : Nat => spent_no (W := wr.drewN nq) (g := g) (x := y) (v := .slice A1 m1 c1) href.out.rc hf href.out.fine.fuse0 href.out.fine.fuse1)
          have HKk := Aside0.mk (And.intro hlt hk)
          clear hf hA2 hml hfl hfs hfull hlr
          go_wp2_with (fail)
          go_quiet (fail)
          clear d0 d1 d2 d3 z2
          go_wp2_with (first | (go_at_call 77; refine (HSp.out _).mono ?_; rintro e w1 ⟨rfl, hr, ht⟩; have HR1 := Aside0.mk hr; have HT1 := Aside0.mk ht; have c1' := hr.c1; have hq1 : (w1.alloc (.cells #[] 5)).cell? ⟨g, 1, none⟩ = some (.slice A1 m1 c1) := (cell_alloc (blk_lt hr) 1).trans c1'; have HE := Aside0.mk (R_empty w1); have HB := Aside0.mk (below_alloc (Below.refl w1.heap.size w1) (.cells #[] 5)); have HC := Aside0.mk (show (Kd.int .u8).C (w1.alloc (.cells #[] 5)) A1 m1 y.b from by rw [HLn.out.2.1]; exact Kd.C_below (Kd.R_reads' ((href.out.below (drew_below wr nq)).turn (x' := { y with fuse := less y.fuse }) ht hr rfl HFn.out).row).2.2 HB.out); clear hr ht) | (at_builtin; go_loud (refine Kd.R_append_rows (Kd.int .u8) (Rr := (Kd.int .u8).K (w7.alloc (.cells #[.int .u8 z] 5))) (w0 := w1) w1.heap.size rfl (.tmp 44) (.tmp 46) 45 5 (.int .u8 0) 1 rfl Tryz.underlying45 info5 rfl Nat.one_pos (by decide) (.slice A7 y.b.length k7) y.b [z] (some ⟨w7.heap.size, 0, none⟩) 1 1 (fun j => w1.heap.size ≤ j) (fun _ => False) rfl rfl HR8.out HC8.out (fun _ _ h => h) (fun _ hk => hk.elim) (fun j hj => by have := HB8.out.size; omega) HB8.out HB8.out.size (by have := HLn.out; simp; omega) ?_); intro v9 w9 hq9 hb9 hg9 hat9; have hw9 : RecX w9 g (.slice A1 m1 c1) { y with fuse := less y.fuse } := (hb9.block g (blk_lt HR1.out)).trans HR1.out; have d9 := hw9.c1; have z9 := hw9.fz 1; obtain ⟨A9, k9, rfl, hcp⟩ := cop_of (href.out.below (drew_below wr nq)) HR1.out HT1.out hb9 hq9 HFm.out; have HCp := Aside0.mk hcp; clear hw9 hcp hq9 hb9 hg9 hat9) | (at_builtin; go_loud (refine Kd.R_append_rows (Kd.int .u8) (Rr := (Kd.int .u8).K (w1.alloc (.cells #[] 5))) (w0 := w1) w1.heap.size rfl (.tmp 39) (.tmp 43) 45 5 (.int .u8 0) 1 rfl Tryz.underlying45 info5 rfl Nat.one_pos (by decide) (.slice (some ⟨w1.heap.size, 0, none⟩) 0 0) [] y.b A1 m1 c1 (fun j => w1.heap.size ≤ j) (fun _ => False) rfl rfl HE.out HC.out (fun _ _ h => h) (fun _ hk => hk.elim) (fun j hj => by have := HB.out.size; omega) HB.out HB.out.size (by have := HLn.out; simp; omega) ?_); intro v7 w7 hq7 hb7 hg7 hat7; have HQ7 := Aside0.mk hq7; have HB7 := Aside0.mk hb7; have hq7' : (Kd.int .u8).R 5 w7 w1.heap.size (fun j => w1.heap.size ≤ j) v7 y.b := (by simpa using hq7); obtain ⟨A7, k7, rfl⟩ := Kd.R_slice hq7'; have HR8 := Aside0.mk (Kd.R_below hq7' (below_alloc (Below.refl _ w7) (.cells #[.int .u8 z] 5))); have HC8 := Aside0.mk (one_reads w7 z); have HB8 := Aside0.mk (below_alloc hb7 (.cells #[.int .u8 z] 5)); clear hq7'; clear hq7 hb7 hg7 hat7))
          have ht := ref_chain (w := wr.drewN nq) hxf.out (hkept.out.then_ (Kept.of_below (drew_below wr nq) _) (fun j hj => .inl hj)) (hbel.out.trans ((drew_below wr nq).mono (by have := href.out.low; have := blk_lt href.out.rc; omega))) (HCp.out.to (A := A1) (m := m1) (c := c1))
          rw [show (y.b ++ [z]).length = y.b.length + 1 by simp] at ht
          obtain ⟨A2, m2, c2, hr, hf⟩ := ht.ref
          exact ⟨⟨k + 1, _, A2, m2, c2, by have := HKk.out; omega, by first | rfl | simp, HA2, hoff, ⟨hr⟩, ⟨hf⟩, ⟨ht.kept⟩, ⟨ht.bel⟩⟩, by have := HKk.out; simp [intOf]; omega⟩
    · have i1 : ¬ (k : Int) < (n : Int) := by omega
      obtain rfl : k = n := by omega
      go_wp2_with (fail)
      go_ret
      have h := hA.out
      rw [← HN.out, List.drop_length, appendV] at h
      rw [h]
      exact ⟨rfl, ref_chain hxf.out hkept.out hbel.out href.out.same⟩
end
end Go.Proofs.YtoeeipkiadbnpaaGreatDoor.Lib10
end

section
namespace Go.Proofs.YtoeeipkiadbnpaaGreatDoor.Lib10
open Go.RowKit Go.Proofs.YtoeeipkiadbnpaaGreatDoorW.PrintWords Go.Proofs.YtoeeipkiadbnpaaGreatDoorW.PrintLast Go.Proofs.YtoeeipkiadbnpaaGreatDoorW.PrintMore
set_option linter.unusedVariables false
variable {B : Nat}
/-- At how many places two rows differ. -/
def diffs : List Int → List Int → Nat
  | b :: bs, y :: ys => (if y = b then 0 else 1) + diffs bs ys
  | _, _ => 0
/-- Within Heal. -/
structure HealAt (B : Nat) (W w : World) (lg sg rg : Nat) (vj : Value) (lines : List ByteArray) (st : St) (A : Option Addr) (m c : Nat) (x : ReelV) (vb : Value) (bk : List Int) : Prop where
  reel : ReelIs B w rg A m c x
  off : x.off = false
  lib : LibS B w lg sg rg vj lines st
  row : (Kd.int .u8).R 5 w W.heap.size (fun j => W.heap.size ≤ j) vb bk
  kept : Kept W w (RF rg A m c)
  bel : Below B W w
theorem HealAt.put {W w w' : World} {lg sg rg : Nat} {vj : Value} {lines : List ByteArray} {st : St} {A : Option Addr} {m c : Nat} {x x' : ReelV} {vb : Value} {bk : List Int} (h : HealAt B W w lg sg rg vj lines st A m c x vb bk) (hF : ∀ k, RF rg A m c k → k < W.heap.size) (ht : ReelTo B w rg A m c m x' w') (ho : x'.off = false) : HealAt B W w' lg sg rg vj lines st A m c x' vb bk :=
  ⟨ht.reel, ho, h.lib.kept ht.kept (fun k hk => h.reel.blk k hk), R_same h.row rfl (fun k hk hlt => ht.kept.2 k hlt (fun hf => by have := hF k hf; omega)), h.kept.then_ ht.kept (fun j hj => .inl hj), h.bel.trans ht.bel⟩
section
set_option maxRecDepth 100000
set_option maxHeartbeats 2000000
end
end Go.Proofs.YtoeeipkiadbnpaaGreatDoor.Lib10
end

section
namespace Go.Proofs.YtoeeipkiadbnpaaGreatDoor.Lib10
open Go.RowKit Go.Proofs.YtoeeipkiadbnpaaGreatDoorW.PrintWords Go.Proofs.YtoeeipkiadbnpaaGreatDoorW.PrintLast Go.Proofs.YtoeeipkiadbnpaaGreatDoorW.PrintMore
set_option linter.unusedVariables false
variable {B : Nat}
theorem flip_ne_all : (List.range 256).all (fun v => (List.range 8).all fun b => decide (flipB (v : Nat) (b : Nat) ≠ (v : Nat))) = true := by decide +kernel
theorem flip_ne {v b : Int} (hv : 0 ≤ v ∧ v ≤ 255) (hb : 0 ≤ b ∧ b < 8) : flipB v b ≠ v := by
  obtain ⟨v, rfl⟩ : ∃ q : Nat, v = q := ⟨v.toNat, by omega⟩
  obtain ⟨b, rfl⟩ : ∃ q : Nat, b = q := ⟨b.toNat, by omega⟩
  have h := List.all_eq_true.1 flip_ne_all v (List.mem_range.2 (by omega))
  have h2 := List.all_eq_true.1 h b (List.mem_range.2 (by omega))
  exact of_decide_eq_true h2
def cnt : List Bool → Nat
  | [] => 0
  | b :: l => (if b = true then 1 else 0) + cnt l
theorem diffs_met : ∀ (b0 b : List Int) (met : List Bool), b.length = b0.length → met.length = b0.length → (∀ i, i < b0.length → met.getD i false = false → b.getD i 0 = b0.getD i 0) → (∀ i, i < b0.length → met.getD i false = true → b.getD i 0 ≠ b0.getD i 0) → diffs b0 b = cnt met
  | [], b, met, h1, h2, _, _ => by
    obtain rfl : met = [] := List.eq_nil_of_length_eq_zero (by simpa using h2)
    cases b <;> rfl
  | x :: b0, [], met, h1, _, _, _ => by simp at h1
  | x :: b0, y :: b, [], _, h2, _, _ => by simp at h2
  | x :: b0, y :: b, m :: met, h1, h2, h3, h4 => by
    have ih := diffs_met b0 b met (by simpa using h1) (by simpa using h2) (fun i hi hm => by simpa using h3 (i + 1) (by simp; omega) (by simpa using hm)) (fun i hi hm => by simpa using h4 (i + 1) (by simp; omega) (by simpa using hm))
    rw [diffs, cnt, ih]
    cases m with
    | false =>
      have := h3 0 (by simp) rfl
      rw [if_pos (by simpa using this)]
      rfl
    | true =>
      have := h4 0 (by simp) rfl
      rw [if_neg (by simpa using this)]
      rfl
theorem Flipped.cnt {b0 b : List Int} {met : List Bool} (h : Flipped b0 b met) (hc : ∀ x ∈ b0, IsCode x) : diffs b0 b = Lib10.cnt met := by
  refine diffs_met b0 b met h.len h.mlen (fun i _ hm => h.no i hm) (fun i hi hm => ?_)
  obtain ⟨k, k0, k8, e⟩ := h.yes i hm
  rw [e]
  have hg : b0.getD i 0 = b0[i] := by simp [List.getD_eq_getElem?_getD, hi]
  rw [hg]
  exact flip_ne (code_byt (hc _ (List.getElem_mem hi))) ⟨k0, k8⟩
theorem flipV_same (x : ReelV) (i b : Int) : (flipV x i b).size = x.size ∧ (flipV x i b).fuse = x.fuse := by unfold flipV; split <;> exact ⟨rfl, rfl⟩
/-- Turning bits over beside a library. -/
structure Turning (B : Nat) (W0 w : World) (lg sg rg : Nat) (vj : Value) (A : Option Addr) (m c : Nat) (x : ReelV) (AM : Option Addr) (nb cM : Nat) (A10 : Option Addr) (c10 : Nat) (lines : List ByteArray) (st : St) (y : ReelV) (met : List Bool) : Prop where
  fl : Flips B W0 w rg A m c x AM nb cM A10 c10 lines y met
  lib : LibS B w lg sg rg vj lines st
  same : y.size = x.size ∧ y.fuse = x.fuse
theorem Turning.below {W0 w w' : World} {lg sg rg : Nat} {vj : Value} {A : Option Addr} {m c : Nat} {x : ReelV} {AM : Option Addr} {nb cM : Nat} {A10 : Option Addr} {c10 : Nat} {lines : List ByteArray} {st : St} {y : ReelV} {met : List Bool} (h : Turning B W0 w lg sg rg vj A m c x AM nb cM A10 c10 lines st y met) (hb : Below w.heap.size w w') (h9 : 9 ≤ B) : Turning B W0 w' lg sg rg vj A m c x AM nb cM A10 c10 lines st y met :=
  ⟨h.fl.below hb h9, h.lib.below hb, h.same⟩
theorem met_opened {w w' : World} {rg : Nat} {A : Option Addr} {m c : Nat} {y : ReelV} {base : Nat} {v : Value} {met : List Bool} (h : Kd.bool.R 4 w base (fun _ => True) v met) (hr : ReelIs B w rg A m c y) (hk : Kept w w' (RF rg A m c)) : Kd.bool.R 4 w' base (fun _ => True) v met :=
  R_apart h rfl (fun k cells hc => hk.2 k (blk_lt hc) (fun hf => by
    obtain ⟨cs, t2, hc2, rfl | rfl⟩ := hr.blk k hf
    · exact type_ne hc hc2 (show (4 : Nat) ≠ 5 by decide) rfl
    · exact type_ne hc hc2 (show (4 : Nat) ≠ 70 by decide) rfl))
theorem row_opened {w w' : World} {rg : Nat} {A : Option Addr} {m c : Nat} {y : ReelV} {base : Nat} {v : Value} {lines : List ByteArray} (h : Kd.string.R 9 w base (fun _ => True) v lines) (hr : ReelIs B w rg A m c y) (hk : Kept w w' (RF rg A m c)) : Kd.string.R 9 w' base (fun _ => True) v lines :=
  R_apart h rfl (fun k cells hc => hk.2 k (blk_lt hc) (fun hf => by
    obtain ⟨cs, t2, hc2, rfl | rfl⟩ := hr.blk k hf
    · exact type_ne hc hc2 (show (9 : Nat) ≠ 5 by decide) rfl
    · exact type_ne hc hc2 (show (9 : Nat) ≠ 70 by decide) rfl))
/-- Behind Open at turned bits. -/
structure Anew (B : Nat) (W0 w : World) (lg ln sg rg : Nat) (vj : Value) (A : Option Addr) (m c : Nat) (AM : Option Addr) (nb cM : Nat) (A10 : Option Addr) (c10 : Nat) (lines : List ByteArray) (st : St) (y : ReelV) (met : List Bool) : Prop where
  reel : ReelIs B w rg A m c y
  lib : LibS B w lg sg rg vj lines st
  next : ∃ sg' vj', LibS B w ln sg' rg vj' lines st
  met : Kd.bool.R 4 w B (fun _ => True) (.slice AM nb cM) met
  sure : Kd.string.R 9 w B (fun _ => True) (.slice A10 lines.length c10) lines
  tabs : Tabs w
  bel : Below B W0 w
theorem Anew.below {W0 w w' : World} {lg ln sg rg : Nat} {vj : Value} {A : Option Addr} {m c : Nat} {AM : Option Addr} {nb cM : Nat} {A10 : Option Addr} {c10 : Nat} {lines : List ByteArray} {st : St} {y : ReelV} {met : List Bool} (h : Anew B W0 w lg ln sg rg vj A m c AM nb cM A10 c10 lines st y met) (hb : Below w.heap.size w w') (h9 : 9 ≤ B) : Anew B W0 w' lg ln sg rg vj A m c AM nb cM A10 c10 lines st y met := by
  obtain ⟨sg', vj', hn⟩ := h.next
  exact ⟨h.reel.below hb, h.lib.below hb, ⟨sg', vj', hn.below hb⟩, Kd.R_below h.met hb, Kd.R_below h.sure hb, h.tabs.below (hb.mono (by have := h.reel.low; have := blk_lt h.reel.rc; omega)) h9, h.bel.trans (hb.mono (by have := h.reel.low; have := blk_lt h.reel.rc; omega))⟩
theorem Anew.to {W0 w w' : World} {lg ln sg rg : Nat} {vj : Value} {A : Option Addr} {m c m' : Nat} {AM : Option Addr} {nb cM : Nat} {A10 : Option Addr} {c10 : Nat} {lines : List ByteArray} {st : St} {y y' : ReelV} {met : List Bool} (h : Anew B W0 w lg ln sg rg vj A m c AM nb cM A10 c10 lines st y met) (ht : ReelTo B w rg A m c m' y' w') (h9 : 9 ≤ B) : Anew B W0 w' lg ln sg rg vj A m' c AM nb cM A10 c10 lines st y' met := by
  obtain ⟨sg', vj', hn⟩ := h.next
  exact ⟨ht.reel, h.lib.kept ht.kept (fun j hj => h.reel.blk j hj), ⟨sg', vj', hn.kept ht.kept (fun j hj => h.reel.blk j hj)⟩, met_opened h.met h.reel ht.kept, row_opened h.sure h.reel ht.kept, h.tabs.below ht.bel h9, h.bel.trans ht.bel⟩
theorem Turning.open {W0 w : World} {lg sg rg : Nat} {vj : Value} {A : Option Addr} {m c : Nat} {x : ReelV} {AM : Option Addr} {nb cM : Nat} {A10 : Option Addr} {c10 : Nat} {lines : List ByteArray} {st : St} {y : ReelV} {met : List Bool} (h : Turning B W0 w lg sg rg vj A m c x AM nb cM A10 c10 lines st y met) (hx : x.b = booksV lines) (hr : Reach lines st) (h9 : 9 ≤ B) : Calls Tryz.prog 18 #[ptr rg] w fun e w' => ∃ ln m', e = .returned (.tuple #[ptr ln, .int .i64 0]) ∧ Anew B W0 w' lg ln sg rg vj A m' c AM nb cM A10 c10 lines st y met := by
  have hco : ∀ z ∈ x.b, IsCode z := by rw [hx]; exact code_books lines
  have hop : openM y.b = (lines, st) := (openM_congr (h.fl.fl.decs hco)).trans (by rw [hx]; exact hr.open)
  refine (libOpen_on h.fl.reel h.fl.off (h.fl.fl.byt hco) h.fl.tabs).mono ?_
  rintro e w' ⟨rfl, ⟨sg', vj', hl⟩, ⟨m', hr2⟩, hk, hb⟩
  rw [hop] at hl hr2
  have e1 : ({ y with b := y.b.take (booksV lines).length } : ReelV) = y := by
    have e2 : y.b.take (booksV lines).length = y.b := List.take_of_length_le (by rw [h.fl.fl.len, hx]; exact Nat.le_refl _)
    rw [e2]
  rw [e1] at hr2
  have hB : B ≤ w.heap.size := by have := h.fl.reel.low; have := blk_lt h.fl.reel.rc; omega
  exact ⟨_, m', rfl, ⟨hr2, h.lib.kept hk (fun j hj => h.fl.reel.blk j hj), ⟨sg', vj', hl.lower hB⟩, met_opened h.fl.met h.fl.reel hk, row_opened h.fl.sure h.fl.reel hk, h.fl.tabs.below hb h9, h.fl.bel.trans hb⟩⟩
section
set_option maxRecDepth 100000
set_option maxHeartbeats 2000000
end
end Go.Proofs.YtoeeipkiadbnpaaGreatDoor.Lib10
end

section
namespace Go.Proofs.YtoeeipkiadbnpaaGreatDoor.Lib10
open Go.RowKit Go.Proofs.YtoeeipkiadbnpaaGreatDoorW.PrintWords Go.Proofs.YtoeeipkiadbnpaaGreatDoorW.PrintLast Go.Proofs.YtoeeipkiadbnpaaGreatDoorW.PrintMore
set_option linter.unusedVariables false
variable {B : Nat}
theorem bytesIn {w : World} {base : Nat} {ok : Nat → Prop} {A : Option Addr} {n c : Nat} {xs : List Int} (h : (Kd.int .u8).R 5 w base ok (.slice A n c) xs) : Lib.BytesIn w A n xs := fun hn => by
  have hl := (Kd.R_reads' h).1
  obtain ⟨g, cap, e, _⟩ := Kd.R_form h (by omega)
  injection e with e _ _
  subst e
  refine ⟨g, 0, rfl, fun i hi => ?_⟩
  have hc := (Kd.R_celln 0 h (i : Int) (by omega) (by omega)).1
  simpa [rdOf] using hc
theorem equal_bytes {w : World} {b1 b2 : Nat} {k1 k2 : Nat → Prop} {A A' : Option Addr} {n c m d : Nat} {xs : List Int} (h1 : (Kd.int .u8).R 5 w b1 k1 (.slice A n c) xs) (h2 : (Kd.int .u8).R 5 w b2 k2 (.slice A' m d) xs) : Calls Tryz.prog 29 #[.slice A n c, .slice A' m d] w fun e w' => e = .returned (.bool true) ∧ w' = w :=
  (Tryz.bytes_Equal_all A A' n c m d xs xs w (Kd.R_reads' h1).1.symm (Kd.R_reads' h2).1.symm (bytesIn h1) (bytesIn h2)).mono fun e w' hw => by
    obtain ⟨rfl, rfl⟩ := hw
    exact ⟨by simp, rfl⟩
/-- Within LibraryHeals. -/
structure HealS (B : Nat) (W0 w : World) (lg sg rg : Nat) (vj : Value) (A : Option Addr) (m c : Nat) (lines : List ByteArray) (st : St) (y : ReelV) (Aw : Option Addr) (nb cw : Nat) : Prop where
  reel : ReelIs B w rg A m c y
  lib : LibS B w lg sg rg vj lines st
  size : y.size = 20000
  len : y.b.length = nb
  want : ∃ base, (Kd.int .u8).R 5 w base (fun j => base ≤ j) (.slice Aw nb cw) (booksV lines) ∧ ∀ k, RF rg A m c k → k < base
  tabs : Tabs w
  bel : Below B W0 w
theorem HealS.below {W0 w w' : World} {lg sg rg : Nat} {vj : Value} {A : Option Addr} {m c : Nat} {lines : List ByteArray} {st : St} {y : ReelV} {Aw : Option Addr} {nb cw : Nat} (h : HealS B W0 w lg sg rg vj A m c lines st y Aw nb cw) (hb : Below w.heap.size w w') (h9 : 9 ≤ B) : HealS B W0 w' lg sg rg vj A m c lines st y Aw nb cw :=
  ⟨h.reel.below hb, h.lib.below hb, h.size, h.len, (by obtain ⟨base, h1, h2⟩ := h.want; exact ⟨base, Kd.R_below h1 hb, h2⟩), h.tabs.below (hb.mono (by have := h.reel.low; have := blk_lt h.reel.rc; omega)) h9, h.bel.trans (hb.mono (by have := h.reel.low; have := blk_lt h.reel.rc; omega))⟩
theorem HealS.to {W0 w w' : World} {lg sg rg : Nat} {vj : Value} {A : Option Addr} {m c : Nat} {lines : List ByteArray} {st : St} {y y' : ReelV} {Aw : Option Addr} {nb cw : Nat} (h : HealS B W0 w lg sg rg vj A m c lines st y Aw nb cw) (ht : ReelTo B w rg A m c m y' w') (hs : y'.size = y.size) (hl : y'.b.length = y.b.length) (h9 : 9 ≤ B) : HealS B W0 w' lg sg rg vj A m c lines st y' Aw nb cw :=
  ⟨ht.reel, h.lib.kept ht.kept (fun j hj => h.reel.blk j hj), hs.trans h.size, hl.trans h.len, (by obtain ⟨base, h1, h2⟩ := h.want; exact ⟨base, R_same h1 rfl (fun k hk hlt => ht.kept.2 k hlt (fun hf => by have := h2 k hf; omega)), h2⟩), h.tabs.below ht.bel h9, h.bel.trans ht.bel⟩
theorem flipV_len (x : ReelV) (i b : Int) : (flipV x i b).b.length = x.b.length := by unfold flipV; split <;> simp
theorem HealS.flip {W0 w : World} {lg sg rg : Nat} {vj : Value} {A : Option Addr} {m c : Nat} {lines : List ByteArray} {st : St} {y : ReelV} {Aw : Option Addr} {nb cw : Nat} (h : HealS B W0 w lg sg rg vj A m c lines st y Aw nb cw) (h9 : 9 ≤ B) (i b : Int) : Calls Tryz.prog 23 #[ptr rg, .int .i64 i, .int .i64 b] w fun e w' => (∃ u, e = .returned u) ∧ HealS B W0 w' lg sg rg vj A m c lines st (flipV y i b) Aw nb cw :=
  (reel_flip h.reel i b).mono fun e w' hw => ⟨hw.1, h.to hw.2 (flipV_same y i b).1 (flipV_len y i b) h9⟩
theorem HealS.fuse {W0 w : World} {lg sg rg : Nat} {vj : Value} {A : Option Addr} {m c : Nat} {lines : List ByteArray} {st : St} {y : ReelV} {Aw : Option Addr} {nb cw : Nat} (h : HealS B W0 w lg sg rg vj A m c lines st y Aw nb cw) (h9 : 9 ≤ B) (f : Nat) (hf : f < 8) : Calls Tryz.prog 19 #[ptr rg, .int .i64 (f : Int)] w fun e w' => (∃ u, e = .returned u) ∧ HealS B W0 w' lg sg rg vj A m c lines st { y with fuse := (f : Int) } Aw nb cw := by
  have e1 : fuseV y (f : Int) = { y with fuse := (f : Int) } := by unfold fuseV; rw [if_neg (by omega)]
  have h1 := reel_fuse h.reel (f : Int) (by omega)
  rw [e1] at h1
  exact h1.mono fun e w' hw => ⟨hw.1, h.to hw.2 rfl rfl h9⟩
section
set_option maxRecDepth 100000
set_option maxHeartbeats 2000000
end
end Go.Proofs.YtoeeipkiadbnpaaGreatDoor.Lib10
end

section
namespace Go.Proofs.YtoeeipkiadbnpaaGreatDoor.Lib10
open Go.RowKit Go.Proofs.YtoeeipkiadbnpaaGreatDoorW.PrintWords Go.Proofs.YtoeeipkiadbnpaaGreatDoorW.PrintLast Go.Proofs.YtoeeipkiadbnpaaGreatDoorW.PrintMore
set_option linter.unusedVariables false
variable {B : Nat}
theorem int_own {w : World} {base : Nat} {ok : Nat → Prop} {v : Value} {xs : List Int} (h : (Kd.int .u8).R 5 w base ok v xs) : (Kd.int .u8).R 5 w base (fun k => some k = v.ownBlock) v xs := by
  obtain ⟨_, inner, ho, hr⟩ := h
  exact ⟨fun k hk => hk.symm, inner, ho, hr⟩
theorem row_kept {w w' : World} {base : Nat} {v : Value} {xs : List Int} {F : Nat → Prop} (h : (Kd.int .u8).R 5 w base (fun _ => True) v xs) (hk : Kept w w' F) (hF : ∀ k, some k = v.ownBlock → ¬ F k) : (Kd.int .u8).R 5 w' base (fun _ => True) v xs :=
  Kd.R_mono (R_same (int_own h) rfl (fun k hk2 hlt => hk.2 k hlt (hF k hk2))) (fun _ _ => trivial)
/-- Two reels beside each other: the program's and the reference's. -/
structure Two (B : Nat) (W0 w : World) (rg xg : Nat) (x y : ReelV) : Prop where
  ex : ∃ A m c A' m' c', ReelIs B w rg A m c x ∧ RefIs B w xg A' m' c' y ∧ ∀ k, RF rg A m c k → ¬ XF xg A' m' c' k
  tabs : Tabs w
  bel : Below B W0 w
/-- The acts' boxes stand. -/
def BoxK (w w' : World) : Prop := ∀ (k : Nat) (cs : Array Value), w.heap[k]? = some (.cells cs 57 (0, 0)) → w'.heap[k]? = some (.cells cs 57 (0, 0))
theorem RefIs.own {w : World} {g : Nat} {A : Option Addr} {m c : Nat} {x : ReelV} (h : RefIs B w g A m c x) : ∀ k, XF g A m c k → k < w.heap.size := by
  rintro k (rfl | hk)
  · exact blk_lt h.rc
  · obtain ⟨cells, hc⟩ := own_type h.row k hk
    exact blk_lt hc
theorem RefIs.kept {w w' : World} {g : Nat} {A : Option Addr} {m c : Nat} {x : ReelV} {F : Nat → Prop} (h : RefIs B w g A m c x) (hk : Kept w w' F) (hF : ∀ k, XF g A m c k → ¬ F k) : RefIs B w' g A m c x :=
  ⟨(hk.2 g (blk_lt h.rc) (hF g (.inl rfl))).trans h.rc, h.low, row_kept h.row hk (fun k hk2 => hF k (.inr hk2)), h.fine⟩
theorem ReelIs.keptF {w w' : World} {g : Nat} {A : Option Addr} {m c : Nat} {x : ReelV} {F : Nat → Prop} (h : ReelIs B w g A m c x) (hk : Kept w w' F) (hF : ∀ k, RF g A m c k → ¬ F k) : ReelIs B w' g A m c x :=
  ⟨(hk.2 g (blk_lt h.rc) (hF g (.inl rfl))).trans h.rc, h.low, row_kept h.row hk (fun k hk2 => hF k (.inr hk2)), h.fine⟩
theorem two_r {W0 w w' : World} {rg xg : Nat} {x y x' : ReelV} {A A' : Option Addr} {m c m' c' : Nat} (h1 : ReelIs B w rg A m c x) (h2 : RefIs B w xg A' m' c' y) (hap : ∀ k, RF rg A m c k → ¬ XF xg A' m' c' k) (hT : Tabs w) (hb0 : Below B W0 w) (h9 : 9 ≤ B)
    (hr : ∃ A1 m1 c1, ReelIs B w' rg A1 m1 c1 x' ∧ ∀ k, RF rg A1 m1 c1 k → RF rg A m c k ∨ w.heap.size ≤ k) (hk : Kept w w' (RF rg A m c)) (hb : Below B w w') : Two B W0 w' rg xg x' y ∧ BoxK w w' := by
  obtain ⟨A1, m1, c1, hr1, hf⟩ := hr
  refine ⟨⟨⟨A1, m1, c1, A', m', c', hr1, h2.kept hk (fun k hx hr => hap k hr hx), fun k hr hx => ?_⟩, hT.below hb h9, hb0.trans hb⟩, fun k cs hc => (hk.2 k (blk_lt hc) (fun hf => ?_)).trans hc⟩
  · rcases hf k hr with h | h
    · exact hap k h hx
    · have := h2.own k hx; omega
  · obtain ⟨cs2, t, hc2, rfl | rfl⟩ := h1.blk k hf
    · exact type_ne hc hc2 (show (57 : Nat) ≠ 5 by decide) rfl
    · exact type_ne hc hc2 (show (57 : Nat) ≠ 70 by decide) rfl
theorem two_x {W0 w w' : World} {rg xg : Nat} {x y y' : ReelV} {A A' : Option Addr} {m c m' c' : Nat} (h1 : ReelIs B w rg A m c x) (h2 : RefIs B w xg A' m' c' y) (hap : ∀ k, RF rg A m c k → ¬ XF xg A' m' c' k) (hT : Tabs w) (hb0 : Below B W0 w) (h9 : 9 ≤ B)
    (ht : RefTo B w xg A' m' c' y' w') : Two B W0 w' rg xg x y' ∧ BoxK w w' := by
  obtain ⟨A2, m2, c2, hr2, hf⟩ := ht.ref
  refine ⟨⟨⟨A, m, c, A2, m2, c2, h1.keptF ht.kept (fun k hr hx => hap k hr (.inl hx)), hr2, fun k hr hx => ?_⟩, hT.below ht.bel h9, hb0.trans ht.bel⟩, fun k cs hc => (ht.kept.2 k (blk_lt hc) (fun hf => ?_)).trans hc⟩
  · rcases hf k hx with h | h
    · exact hap k hr h
    · have := (h1.own k hr).2; omega
  · subst hf
    exact type_ne hc h2.rc (show (57 : Nat) ≠ 98 by decide) rfl
theorem Two.below {W0 w w' : World} {rg xg : Nat} {x y : ReelV} (h : Two B W0 w rg xg x y) (hb : Below w.heap.size w w') (h9 : 9 ≤ B) : Two B W0 w' rg xg x y := by
  obtain ⟨A, m, c, A', m', c', h1, h2, hap⟩ := h.ex
  have hB : B ≤ w.heap.size := by have := h1.low; have := blk_lt h1.rc; omega
  exact ⟨⟨A, m, c, A', m', c', h1.below hb, h2.below hb, hap⟩, h.tabs.below (hb.mono hB) h9, h.bel.trans (hb.mono hB)⟩
theorem to_r {w w' : World} {rg : Nat} {A : Option Addr} {m c m' : Nat} {x' : ReelV} (ht : ReelTo B w rg A m c m' x' w') : ∃ A1 m1 c1, ReelIs B w' rg A1 m1 c1 x' ∧ ∀ k, RF rg A1 m1 c1 k → RF rg A m c k ∨ w.heap.size ≤ k := ⟨A, m', c, ht.reel, fun k hk => .inl (by
  rcases hk with rfl | hk
  · exact .inl rfl
  · refine .inr (hk.trans ?_)
    cases A <;> rfl)⟩
theorem two_put_r {W0 w : World} {rg xg : Nat} {x y : ReelV} (h : Two B W0 w rg xg x y) (h9 : 9 ≤ B) (i b : Int) : Calls Tryz.prog 32 #[ptr rg, .int .i64 i, .int .u8 b] w fun e w' => e = .returned (.int .i64 (putV x i b).1) ∧ Two B W0 w' rg xg (putV x i b).2 y ∧ BoxK w w' := by
  obtain ⟨A, m, c, A', m', c', h1, h2, hap⟩ := h.ex
  exact (reel_put h1 i b).mono fun e w' hw => ⟨hw.1, two_r h1 h2 hap h.tabs h.bel h9 (to_r hw.2) hw.2.kept hw.2.bel⟩
theorem two_put_x {W0 w : World} {rg xg : Nat} {x y : ReelV} (h : Two B W0 w rg xg x y) (h9 : 9 ≤ B) (i b : Int) : Calls Tryz.prog 49 #[ptr xg, .int .i64 i, .int .u8 b] w fun e w' => e = .returned (.int .i64 (putV y i b).1) ∧ Two B W0 w' rg xg x (putV y i b).2 ∧ BoxK w w' := by
  obtain ⟨A, m, c, A', m', c', h1, h2, hap⟩ := h.ex
  exact (xput_calls h2 i b).mono fun e w' hw => ⟨hw.1, two_x h1 h2 hap h.tabs h.bel h9 hw.2⟩
theorem two_cut_r {W0 w : World} {rg xg : Nat} {x y : ReelV} (h : Two B W0 w rg xg x y) (h9 : 9 ≤ B) (i : Int) : Calls Tryz.prog 33 #[ptr rg, .int .i64 i] w fun e w' => e = .returned (.int .i64 (cutV x i).1) ∧ Two B W0 w' rg xg (cutV x i).2 y ∧ BoxK w w' := by
  obtain ⟨A, m, c, A', m', c', h1, h2, hap⟩ := h.ex
  exact (reel_cut h1 i).mono fun e w' hw => by
    obtain ⟨he, mm, ht⟩ := hw
    exact ⟨he, two_r h1 h2 hap h.tabs h.bel h9 (to_r ht) ht.kept ht.bel⟩
theorem two_cut_x {W0 w : World} {rg xg : Nat} {x y : ReelV} (h : Two B W0 w rg xg x y) (h9 : 9 ≤ B) (i : Int) : Calls Tryz.prog 50 #[ptr xg, .int .i64 i] w fun e w' => e = .returned (.int .i64 (cutV y i).1) ∧ Two B W0 w' rg xg x (cutV y i).2 ∧ BoxK w w' := by
  obtain ⟨A, m, c, A', m', c', h1, h2, hap⟩ := h.ex
  exact (xcut_calls h2 i).mono fun e w' hw => ⟨hw.1, two_x h1 h2 hap h.tabs h.bel h9 hw.2⟩
theorem two_flip_r {W0 w : World} {rg xg : Nat} {x y : ReelV} (h : Two B W0 w rg xg x y) (h9 : 9 ≤ B) (i b : Int) : Calls Tryz.prog 23 #[ptr rg, .int .i64 i, .int .i64 b] w fun e w' => (∃ u, e = .returned u) ∧ Two B W0 w' rg xg (flipV x i b) y ∧ BoxK w w' := by
  obtain ⟨A, m, c, A', m', c', h1, h2, hap⟩ := h.ex
  exact (reel_flip h1 i b).mono fun e w' hw => ⟨hw.1, two_r h1 h2 hap h.tabs h.bel h9 (to_r hw.2) hw.2.kept hw.2.bel⟩
theorem two_flip_x {W0 w : World} {rg xg : Nat} {x y : ReelV} (h : Two B W0 w rg xg x y) (h9 : 9 ≤ B) (i b : Int) : Calls Tryz.prog 51 #[ptr xg, .int .i64 i, .int .i64 b] w fun e w' => (∃ u, e = .returned u) ∧ Two B W0 w' rg xg x (flipV y i b) ∧ BoxK w w' := by
  obtain ⟨A, m, c, A', m', c', h1, h2, hap⟩ := h.ex
  exact (xflip_calls h2 i b).mono fun e w' hw => ⟨hw.1, two_x h1 h2 hap h.tabs h.bel h9 hw.2⟩
theorem two_fuse_r {W0 w : World} {rg xg : Nat} {x y : ReelV} (h : Two B W0 w rg xg x y) (h9 : 9 ≤ B) (i : Int) (hi : i ≤ 9223372036854775807) : Calls Tryz.prog 19 #[ptr rg, .int .i64 i] w fun e w' => (∃ u, e = .returned u) ∧ Two B W0 w' rg xg (fuseV x i) y ∧ BoxK w w' := by
  obtain ⟨A, m, c, A', m', c', h1, h2, hap⟩ := h.ex
  exact (reel_fuse h1 i hi).mono fun e w' hw => ⟨hw.1, two_r h1 h2 hap h.tabs h.bel h9 (to_r hw.2) hw.2.kept hw.2.bel⟩
theorem two_fuse_x {W0 w : World} {rg xg : Nat} {x y : ReelV} (h : Two B W0 w rg xg x y) (h9 : 9 ≤ B) (i : Int) (hi : i ≤ 9223372036854775807) : Calls Tryz.prog 52 #[ptr xg, .int .i64 i] w fun e w' => (∃ u, e = .returned u) ∧ Two B W0 w' rg xg x (fuseV y i) ∧ BoxK w w' := by
  obtain ⟨A, m, c, A', m', c', h1, h2, hap⟩ := h.ex
  exact (xfuse_calls h2 i hi).mono fun e w' hw => ⟨hw.1, two_x h1 h2 hap h.tabs h.bel h9 hw.2⟩
theorem two_power_r {W0 w : World} {rg xg : Nat} {x y : ReelV} (h : Two B W0 w rg xg x y) (h9 : 9 ≤ B) : Calls Tryz.prog 21 #[ptr rg] w fun e w' => (∃ u, e = .returned u) ∧ Two B W0 w' rg xg (powerV x) y ∧ BoxK w w' := by
  obtain ⟨A, m, c, A', m', c', h1, h2, hap⟩ := h.ex
  exact (reel_power h1).mono fun e w' hw => ⟨hw.1, two_r h1 h2 hap h.tabs h.bel h9 (to_r hw.2) hw.2.kept hw.2.bel⟩
theorem two_power_x {W0 w : World} {rg xg : Nat} {x y : ReelV} (h : Two B W0 w rg xg x y) (h9 : 9 ≤ B) : Calls Tryz.prog 53 #[ptr xg] w fun e w' => (∃ u, e = .returned u) ∧ Two B W0 w' rg xg x (powerV y) ∧ BoxK w w' := by
  obtain ⟨A, m, c, A', m', c', h1, h2, hap⟩ := h.ex
  exact (xpower_calls h2).mono fun e w' hw => ⟨hw.1, two_x h1 h2 hap h.tabs h.bel h9 hw.2⟩
/-- A text's bytes stand where they were laid. -/
theorem bytes_C_at {W W' : World} {s : ByteArray} (hs : s.size ≤ 9223372036854775807) (hk : W'.heap[W.heap.size]? = (Lib.bytesWorld W 5 s).heap[W.heap.size]?) : (Kd.int .u8).C W' (some ⟨W.heap.size, 0, none⟩) s.size (bytesOf s) := by
  refine Kd.C_of_reads (enc := Value.int .u8) (d := (0 : Int)) (h1 := fun _ => rfl) ⟨bytesOf_length s, hs, fun _ => ⟨_, rfl, fun j hj => ?_⟩⟩
  have h := (bytes_reads W 5 s hs).2.2 (by omega)
  obtain ⟨a, ha, hr⟩ := h
  cases ha
  have h2 := hr j hj
  rw [← h2]
  exact World.cell?_of_block (by rw [add_block]; exact hk)
theorem two_app_x {W0 w : World} {rg xg : Nat} {x y : ReelV} (h : Two B W0 w rg xg x y) (h9 : 9 ≤ B) {s : ByteArray} (hs : s.size ≤ 9223372036854775807) {cap : Nat} (hcap : s.size ≤ cap) : Calls Tryz.prog 48 #[ptr xg, .slice (some ⟨w.heap.size, 0, none⟩) s.size cap] (Lib.bytesWorld w 5 s) fun e w' => e = .returned (.int .i64 (if y.off = true then 8 else (appendV y (bytesOf s)).1)) ∧ Two B W0 w' rg xg x (if y.off = true then y else (appendV y (bytesOf s)).2) := by
  have hbw := bytes_below (Below.refl w.heap.size w) (Nat.le_refl _) 5 s
  have h' := h.below hbw h9
  obtain ⟨A, m, c, A', m', c', h1, h2, hap⟩ := h.ex
  have h1' := h1.below hbw
  have h2' := h2.below hbw
  have hlt : w.heap.size < (Lib.bytesWorld w 5 s).heap.size := by rw [Lib.bytesWorld_size]; omega
  have hne : ¬ w.heap.size = xg := fun e => by have := h2.own xg (.inl rfl); omega
  by_cases ho : y.off = true
  · rw [if_pos ho, if_pos ho]
    refine (xappend_off h2' ho _).mono fun e w' hw => ⟨hw.1, (two_x h1' h2' hap h'.tabs h'.bel h9 hw.2).1⟩
  · rw [if_neg ho, if_neg ho]
    refine (xappend_on h2' (by simpa using ho) (bytesOf_length s) hcap (fun W' hk => bytes_C_at hs (hk.2 _ hlt hne))).mono fun e w' hw => ⟨hw.1, (two_x h1' h2' hap h'.tabs h'.bel h9 hw.2).1⟩
end Go.Proofs.YtoeeipkiadbnpaaGreatDoor.Lib10
end

section
namespace Go.Proofs.YtoeeipkiadbnpaaGreatDoor.Lib10
open Go.RowKit Go.Proofs.YtoeeipkiadbnpaaGreatDoorW.PrintWords Go.Proofs.YtoeeipkiadbnpaaGreatDoorW.PrintLast Go.Proofs.YtoeeipkiadbnpaaGreatDoorW.PrintMore
set_option linter.unusedVariables false
variable {B : Nat}
structure TwoF (B : Nat) (W0 w : World) (rg xg : Nat) (x y : ReelV) (blk : Nat) : Prop where
  ex : ∃ A m c A' m' c', ReelIs B w rg A m c x ∧ RefIs B w xg A' m' c' y ∧ (∀ k, RF rg A m c k → ¬ XF xg A' m' c' k) ∧ ¬ RF rg A m c blk ∧ ¬ XF xg A' m' c' blk
  tabs : Tabs w
  bel : Below B W0 w
theorem TwoF.two {W0 w : World} {rg xg : Nat} {x y : ReelV} {blk : Nat} (h : TwoF B W0 w rg xg x y blk) : Two B W0 w rg xg x y := by
  obtain ⟨A, m, c, A', m', c', h1, h2, hap, _, _⟩ := h.ex
  exact ⟨⟨A, m, c, A', m', c', h1, h2, hap⟩, h.tabs, h.bel⟩
theorem TwoF.set {W0 w : World} {rg xg : Nat} {x y : ReelV} {blk : Nat} (h : TwoF B W0 w rg xg x y blk) (hB : B ≤ blk) (h9 : 9 ≤ B) (i : Nat) (v : Value) : TwoF B W0 (w.setCell ⟨blk, i, none⟩ v) rg xg x y blk := by
  obtain ⟨A, m, c, A', m', c', h1, h2, hap, f1, f2⟩ := h.ex
  have hk : Kept w (w.setCell ⟨blk, i, none⟩ v) (fun k => k = blk) := ⟨Nat.le_of_eq (by simp [World.setCell]), fun j _ hn => Below.heap_setCell w _ _ j hn⟩
  have hb : Below B w (w.setCell ⟨blk, i, none⟩ v) := (Below.refl B w).setCell hB _
  exact ⟨⟨A, m, c, A', m', c', h1.keptF hk (fun k hr e => f1 (e ▸ hr)), h2.kept hk (fun k hr e => f2 (e ▸ hr)), hap, f1, f2⟩, h.tabs.below hb h9, h.bel.trans hb⟩
theorem two_app_rF {W0 w : World} {rg xg : Nat} {x y : ReelV} (h : Two B W0 w rg xg x y) (h9 : 9 ≤ B) {s : ByteArray} (hs : s.size ≤ 9223372036854775807) {cap : Nat} (hcap : s.size ≤ cap) : Calls Tryz.prog 31 #[ptr rg, .slice (some ⟨w.heap.size, 0, none⟩) s.size cap] (Lib.bytesWorld w 5 s) fun e w' => e = .returned (.int .i64 (if x.off = true then 8 else (appendV x (bytesOf s)).1)) ∧ TwoF B W0 w' rg xg (if x.off = true then x else (appendV x (bytesOf s)).2) y w.heap.size ∧ BoxK (Lib.bytesWorld w 5 s) w' ∧ w'.heap[w.heap.size]? = (Lib.bytesWorld w 5 s).heap[w.heap.size]? ∧ B ≤ w.heap.size := by
  have hbw := bytes_below (Below.refl w.heap.size w) (Nat.le_refl _) 5 s
  have h' := h.below hbw h9
  obtain ⟨A, m, c, A', m', c', h1, h2, hap⟩ := h.ex
  have h1' := h1.below hbw
  have h2' := h2.below hbw
  have hnot : ¬ RF rg A m c w.heap.size := fun hf => by have := (h1.own _ hf).2; omega
  have hlt : w.heap.size < (Lib.bytesWorld w 5 s).heap.size := by rw [Lib.bytesWorld_size]; omega
  have hB : B ≤ w.heap.size := by have := h1.low; have := blk_lt h1.rc; omega
  refine (reel_append h1' (bytesOf_length s) hcap (fun W' hk => bytes_C_at hs (hk.2 _ hlt hnot))).mono fun e w' hw => ?_
  obtain ⟨he, hr, hk, hb⟩ := hw
  obtain ⟨k1, k2⟩ := two_r h1' h2' hap h'.tabs h'.bel h9 hr hk hb
  obtain ⟨A1, m1, c1, hr1, hf⟩ := hr
  refine ⟨he, ⟨⟨A1, m1, c1, A', m', c', hr1, h2'.kept hk (fun k hx hr => hap k hr hx), fun k hr hx => ?_, fun hf2 => ?_, fun hx => ?_⟩, k1.tabs, k1.bel⟩, k2, hk.2 _ hlt hnot, hB⟩
  · rcases hf k hr with h | h
    · exact hap k h hx
    · have := h2'.own k hx; omega
  · rcases hf _ hf2 with h | h
    · exact hnot h
    · omega
  · have := h2.own _ hx; omega
/-- The bytes that are turned. -/
structure XorAt (w1 w' : World) (blk n : Nat) : Prop where
  sz : w'.heap.size = w1.heap.size
  oth : ∀ k, k ≠ blk → w'.heap[k]? = w1.heap[k]?
  cell : ∀ j, j < n → ∃ v, w'.cell? ⟨blk, j, none⟩ = some (.int .u8 v)
  fz : ∀ j, j < n → w'.frozen? ⟨blk, j, none⟩ = false
theorem XorAt.set {w1 w' : World} {blk n : Nat} (h : XorAt w1 w' blk n) {i : Nat} (hi : i < n) (v : Int) : XorAt w1 (w'.setCell ⟨blk, i, none⟩ (.int .u8 v)) blk n := by
  refine ⟨(World.size_setCell _ _ _).trans h.sz, fun k hk => (Below.heap_setCell w' _ _ k hk).trans (h.oth k hk), fun j hj => ?_, fun j hj => ?_⟩
  · obtain ⟨u, hu⟩ := h.cell j hj
    by_cases e : j = i
    · subst e
      exact ⟨v, by rw [World.cell?_setCell_same (h := hu)]⟩
    · exact ⟨u, by rw [World.cell?_setCell_other (h := (fun h2 => e (by injection h2 with _ h3 _; exact h3.symm) : (⟨blk, i, none⟩ : Addr) ≠ ⟨blk, j, none⟩))]; exact hu⟩
  · have h2 := h.fz j hj
    rw [← h2]
    simp
theorem bytes_xor {W W' : World} {s : ByteArray} (hk : W'.heap[W.heap.size]? = (Lib.bytesWorld W 5 s).heap[W.heap.size]?) (hs : s.size ≤ 9223372036854775807) : XorAt W' W' W.heap.size s.size := by
  refine ⟨rfl, fun _ _ => rfl, fun j hj => ?_, fun j hj => ?_⟩
  · obtain ⟨a, ha, hr⟩ := (bytes_reads W 5 s hs).2.2 (by omega)
    cases ha
    have h2 := hr j hj
    rw [add_plain] at h2
    have h3 : W'.cell? ⟨W.heap.size, j, none⟩ = (Lib.bytesWorld W 5 s).cell? ⟨W.heap.size, j, none⟩ := World.cell?_of_block hk
    exact ⟨_, h3.trans (by first | exact h2 | simpa using h2)⟩
  · rw [World.frozen?_of_block (w := Lib.bytesWorld W 5 s) (a := ⟨W.heap.size, j, none⟩) hk]
    have hc := Lib.bytesWorld_cell W 5 s j hj
    have hn := Lib.bytesWorld_at_new W 5 s
    have hlt : j < (Lib.bytesCells W 5 s).size := by
      unfold World.cell? at hc
      rw [hn] at hc
      simp at hc
      exact (Array.getElem?_eq_some_iff.1 hc).1
    unfold World.frozen?
    rw [hn]
    simp
    omega
theorem keepX {w w' : World} {xg : Nat} {A : Option Addr} {m c : Nat} {y : ReelV} (h : RefIs B w xg A m c y) (hb : Aside0 (Below w.heap.size w w')) : w'.cell? ⟨xg, 1, none⟩ = some (.slice A m c) ∧ Aside0 (Below w.heap.size w w') := ⟨(h.below hb.out).rc.c1, hb⟩
def ActAt (w : World) (g : Nat) (kd n m : Int) (line : ByteArray) : Prop := w.heap[g]? = some (.cells #[.int .i64 kd, .int .i64 n, .int .i64 m, .string line] 57 (0, 0))
section
set_option maxRecDepth 100000
set_option maxHeartbeats 2000000
end
end Go.Proofs.YtoeeipkiadbnpaaGreatDoor.Lib10
end

section
namespace Go.Proofs.YtoeeipkiadbnpaaGreatDoor.Lib10
open Go.RowKit Go.Proofs.YtoeeipkiadbnpaaGreatDoorW.PrintWords Go.Proofs.YtoeeipkiadbnpaaGreatDoorW.PrintLast Go.Proofs.YtoeeipkiadbnpaaGreatDoorW.PrintMore
set_option linter.unusedVariables false
variable {B : Nat}
theorem BoxK.act {w w' : World} {g : Nat} {kd n m : Int} {line : ByteArray} (hk : BoxK w w') (h : Aside0 (ActAt w g kd n m line)) : ActAt w' g kd n m line := hk _ _ h.out
theorem keepAct {w' : World} {g : Nat} {kd n m : Int} {line : ByteArray} (h : Aside0 (ActAt w' g kd n m line)) : w'.cell? ⟨g, 1, none⟩ = some (.int .i64 n) ∧ w'.cell? ⟨g, 2, none⟩ = some (.int .i64 m) ∧ Aside0 (ActAt w' g kd n m line) := ⟨(blk_cell h.out 1).trans rfl, (blk_cell h.out 2).trans rfl, h⟩
section
set_option maxRecDepth 100000
set_option maxHeartbeats 2000000
theorem touched_calls {W0 w : World} {rg xg : Nat} {x : ReelV} (h : Two B W0 w rg xg x x) (h9 : 9 ≤ B) (kd n m : Int) (line : ByteArray) (hn : n ≤ 9223372036854775807) (hs : line.size ≤ 9223372036854775807) :
    Calls Tryz.prog 26 #[ptr rg, ptr xg, .agg #[.int .i64 kd, .int .i64 n, .int .i64 m, .string line]] w fun e w' => e = .returned (.bool true) ∧ ∃ x', Two B W0 w' rg xg x' x' := by
  have HN := Aside0.mk (And.intro hn hs)
  have H9 := Aside0.mk h9
  have HT0 := Aside0.mk (h.below (below_alloc (Below.refl _ w) (.cells #[.int .i64 kd, .int .i64 n, .int .i64 m, .string line] 57)) h9)
  have HX0 := Aside0.mk (World.alloc_heap_new w (.cells #[.int .i64 kd, .int .i64 n, .int .i64 m, .string line] 57))
  clear h h9 hn hs
  by_cases h8 : kd = 8
  · subst h8
    go_enter Tryz.func26, Tryz.ntmps26
    go_upto_region 3 with (fail)
    obtain ⟨wa, hwa⟩ : ∃ wa, wa = w.alloc (.cells #[.int .i64 8, .int .i64 n, .int .i64 m, .string line] 57) := ⟨_, rfl⟩
    obtain ⟨gb, hgb⟩ : ∃ gb, gb = w.heap.size := ⟨_, rfl⟩
    have HT := Aside0.mk (show Two B W0 wa rg xg x x by rw [hwa]; exact HT0.out)
    have HX := Aside0.mk (show wa.heap[gb]? = some (.cells #[.int .i64 8, .int .i64 n, .int .i64 m, .string line] 57 (0, 0)) by rw [hwa, hgb]; exact HX0.out)
    rw [← hwa, ← hgb]
    clear hwa hgb HT0 HX0
    have b0 := (blk_cell HX.out 0).trans rfl
    have b1 := (blk_cell HX.out 1).trans rfl
    have b2 := (blk_cell HX.out 2).trans rfl
    have b3 := (blk_cell HX.out 3).trans rfl
    go_wp2_with (first | (go_at_call 21; refine (two_power_r HT.out H9.out).mono ?_; rintro e w1 ⟨⟨u, rfl⟩, ht, hk⟩; have HT1 := Aside0.mk ht;  clear ht hk) | (go_at_call 53; refine (two_power_x HT1.out H9.out).mono ?_; rintro e wz ⟨⟨u, rfl⟩, ht, hk⟩; have HT := Aside0.mk ht; have HBr := Aside0.mk (show Below wz.heap.size wz wz.drew from below_drew1 (Below.refl _ wz)); clear ht hk))
    obtain ⟨A, mm, c, A', m', c', h1, h2, hap⟩ := HT.out.ex
    have H1 := Aside0.mk h1
    have H2 := Aside0.mk h2
    have qx := h2.rc.c1
    clear h1 h2 hap
    go_region_held3 (fun w' => w'.cell? ⟨xg, 1, none⟩ = some (.slice A' m' c') ∧ Aside0 (Below wz.heap.size wz w')) ((first | exact keepX H2.out (by assumption))) (first | (go_at_call 22; refine (bytes_fresh (H1.out.below (Aside0.out (by assumption)))).mono ?_; rintro e w22 ⟨⟨v, rfl, hr⟩, hb⟩; obtain ⟨A6, c6, rfl⟩ := Kd.R_slice hr; have HE6 := Aside0.mk hr; have HB6 := Aside0.mk (Below.trans (Aside0.out (by assumption) : Below wz.heap.size wz _) (hb.mono (Below.size (Aside0.out (by assumption) : Below wz.heap.size wz _)))); clear hr hb) | (go_at_call 29; refine (equal_bytes HE6.out (H2.out.below HB6.out).row).mono ?_; rintro e w29 ⟨rfl, rfl⟩))
    go_wp2_with (fail)
    go_ret
    exact ⟨rfl, _, HT.out.below HB6.out H9.out⟩
  by_cases h7 : kd = 7
  · subst h7
    go_enter Tryz.func26, Tryz.ntmps26
    go_upto_region 3 with (fail)
    obtain ⟨wa, hwa⟩ : ∃ wa, wa = w.alloc (.cells #[.int .i64 7, .int .i64 n, .int .i64 m, .string line] 57) := ⟨_, rfl⟩
    obtain ⟨gb, hgb⟩ : ∃ gb, gb = w.heap.size := ⟨_, rfl⟩
    have HT := Aside0.mk (show Two B W0 wa rg xg x x by rw [hwa]; exact HT0.out)
    have HX := Aside0.mk (show wa.heap[gb]? = some (.cells #[.int .i64 7, .int .i64 n, .int .i64 m, .string line] 57 (0, 0)) by rw [hwa, hgb]; exact HX0.out)
    rw [← hwa, ← hgb]
    clear hwa hgb HT0 HX0
    have b0 := (blk_cell HX.out 0).trans rfl
    have b1 := (blk_cell HX.out 1).trans rfl
    have b2 := (blk_cell HX.out 2).trans rfl
    have b3 := (blk_cell HX.out 3).trans rfl
    go_wp2_with (first | (go_at_call 19; refine (two_fuse_r HT.out H9.out n HN.out.1).mono ?_; rintro e w1 ⟨⟨u, rfl⟩, ht, hk⟩; have HT1 := Aside0.mk ht; have HX1 := Aside0.mk (hk _ _ HX.out); have b1' := (blk_cell HX1.out 1).trans rfl; have b2' := (blk_cell HX1.out 2).trans rfl; clear ht hk) | (go_at_call 52; refine (two_fuse_x HT1.out H9.out n HN.out.1).mono ?_; rintro e wz ⟨⟨u, rfl⟩, ht, hk⟩; have HT := Aside0.mk ht; have HBr := Aside0.mk (show Below wz.heap.size wz wz.drew from below_drew1 (Below.refl _ wz)); clear ht hk))
    obtain ⟨A, mm, c, A', m', c', h1, h2, hap⟩ := HT.out.ex
    have H1 := Aside0.mk h1
    have H2 := Aside0.mk h2
    have qx := h2.rc.c1
    clear h1 h2 hap
    go_region_held3 (fun w' => w'.cell? ⟨xg, 1, none⟩ = some (.slice A' m' c') ∧ Aside0 (Below wz.heap.size wz w')) ((first | exact keepX H2.out (by assumption))) (first | (go_at_call 22; refine (bytes_fresh (H1.out.below (Aside0.out (by assumption)))).mono ?_; rintro e w22 ⟨⟨v, rfl, hr⟩, hb⟩; obtain ⟨A6, c6, rfl⟩ := Kd.R_slice hr; have HE6 := Aside0.mk hr; have HB6 := Aside0.mk (Below.trans (Aside0.out (by assumption) : Below wz.heap.size wz _) (hb.mono (Below.size (Aside0.out (by assumption) : Below wz.heap.size wz _)))); clear hr hb) | (go_at_call 29; refine (equal_bytes HE6.out (H2.out.below HB6.out).row).mono ?_; rintro e w29 ⟨rfl, rfl⟩))
    go_wp2_with (fail)
    go_ret
    exact ⟨rfl, _, HT.out.below HB6.out H9.out⟩
  by_cases h6 : kd = 6
  · subst h6
    go_enter Tryz.func26, Tryz.ntmps26
    go_upto_region 3 with (fail)
    obtain ⟨wa, hwa⟩ : ∃ wa, wa = w.alloc (.cells #[.int .i64 6, .int .i64 n, .int .i64 m, .string line] 57) := ⟨_, rfl⟩
    obtain ⟨gb, hgb⟩ : ∃ gb, gb = w.heap.size := ⟨_, rfl⟩
    have HT := Aside0.mk (show Two B W0 wa rg xg x x by rw [hwa]; exact HT0.out)
    have HX := Aside0.mk (show wa.heap[gb]? = some (.cells #[.int .i64 6, .int .i64 n, .int .i64 m, .string line] 57 (0, 0)) by rw [hwa, hgb]; exact HX0.out)
    rw [← hwa, ← hgb]
    clear hwa hgb HT0 HX0
    have b0 := (blk_cell HX.out 0).trans rfl
    have b1 := (blk_cell HX.out 1).trans rfl
    have b2 := (blk_cell HX.out 2).trans rfl
    have b3 := (blk_cell HX.out 3).trans rfl
    go_wp2_with (first | (go_at_call 23; refine (two_flip_r HT.out H9.out n m).mono ?_; rintro e w1 ⟨⟨u, rfl⟩, ht, hk⟩; have HT1 := Aside0.mk ht; have HX1 := Aside0.mk (hk _ _ HX.out); have b1' := (blk_cell HX1.out 1).trans rfl; have b2' := (blk_cell HX1.out 2).trans rfl; clear ht hk) | (go_at_call 51; refine (two_flip_x HT1.out H9.out n m).mono ?_; rintro e wz ⟨⟨u, rfl⟩, ht, hk⟩; have HT := Aside0.mk ht; have HBr := Aside0.mk (show Below wz.heap.size wz wz.drew from below_drew1 (Below.refl _ wz)); clear ht hk))
    obtain ⟨A, mm, c, A', m', c', h1, h2, hap⟩ := HT.out.ex
    have H1 := Aside0.mk h1
    have H2 := Aside0.mk h2
    have qx := h2.rc.c1
    clear h1 h2 hap
    go_region_held3 (fun w' => w'.cell? ⟨xg, 1, none⟩ = some (.slice A' m' c') ∧ Aside0 (Below wz.heap.size wz w')) ((first | exact keepX H2.out (by assumption))) (first | (go_at_call 22; refine (bytes_fresh (H1.out.below (Aside0.out (by assumption)))).mono ?_; rintro e w22 ⟨⟨v, rfl, hr⟩, hb⟩; obtain ⟨A6, c6, rfl⟩ := Kd.R_slice hr; have HE6 := Aside0.mk hr; have HB6 := Aside0.mk (Below.trans (Aside0.out (by assumption) : Below wz.heap.size wz _) (hb.mono (Below.size (Aside0.out (by assumption) : Below wz.heap.size wz _)))); clear hr hb) | (go_at_call 29; refine (equal_bytes HE6.out (H2.out.below HB6.out).row).mono ?_; rintro e w29 ⟨rfl, rfl⟩))
    go_wp2_with (fail)
    go_ret
    exact ⟨rfl, _, HT.out.below HB6.out H9.out⟩
  by_cases h4 : kd = 4
  · subst h4
    go_enter Tryz.func26, Tryz.ntmps26
    go_upto_region 3 with (fail)
    obtain ⟨wa, hwa⟩ : ∃ wa, wa = w.alloc (.cells #[.int .i64 4, .int .i64 n, .int .i64 m, .string line] 57) := ⟨_, rfl⟩
    obtain ⟨gb, hgb⟩ : ∃ gb, gb = w.heap.size := ⟨_, rfl⟩
    have HT := Aside0.mk (show Two B W0 wa rg xg x x by rw [hwa]; exact HT0.out)
    have HX := Aside0.mk (show wa.heap[gb]? = some (.cells #[.int .i64 4, .int .i64 n, .int .i64 m, .string line] 57 (0, 0)) by rw [hwa, hgb]; exact HX0.out)
    rw [← hwa, ← hgb]
    clear hwa hgb HT0 HX0
    have b0 := (blk_cell HX.out 0).trans rfl
    have b1 := (blk_cell HX.out 1).trans rfl
    have b2 := (blk_cell HX.out 2).trans rfl
    have b3 := (blk_cell HX.out 3).trans rfl
    go_wp2_with (fail)
    have HTd := Aside0.mk (HT.out.below (w' := wa.drew) (below_drew1 (Below.refl _ wa)) H9.out)
    have HAd := Aside0.mk (show ActAt wa.drew gb 4 n m line from HX.out)
    clear b0 b1 b2 b3
    go_region_held3 (fun w' => w'.cell? ⟨gb, 1, none⟩ = some (.int .i64 n) ∧ w'.cell? ⟨gb, 2, none⟩ = some (.int .i64 m) ∧ Aside0 (ActAt w' gb 4 n m line)) ((first | exact keepAct (by assumption))) (first | (go_at_call 49; refine (two_put_x HTr.out H9.out n (IntKind.u8.wrap m)).mono ?_; rintro e wz ⟨rfl, ht, hk⟩; have HT := Aside0.mk ht; have HAz := Aside0.mk (hk.act (by assumption)); have HBr := Aside0.mk (show Below wz.heap.size wz wz.drew from below_drew1 (Below.refl _ wz)); clear ht hk) | (go_at_call 32; refine (two_put_r HTx.out H9.out n (IntKind.u8.wrap m)).mono ?_; rintro e wz ⟨rfl, ht, hk⟩; have HT := Aside0.mk ht; have HAz := Aside0.mk (hk.act (by assumption)); have HBr := Aside0.mk (show Below wz.heap.size wz wz.drew from below_drew1 (Below.refl _ wz)); clear ht hk) | (go_at_call 32; refine (two_put_r HTd.out H9.out n (IntKind.u8.wrap m)).mono ?_; rintro e w1 ⟨rfl, ht, hk⟩; have HTr := Aside0.mk ht; have HA1 := Aside0.mk (hk.act (by assumption)); clear ht hk) | (go_at_call 49; refine (two_put_x HTd.out H9.out n (IntKind.u8.wrap m)).mono ?_; rintro e w1 ⟨rfl, ht, hk⟩; have HTx := Aside0.mk ht; have HA1 := Aside0.mk (hk.act (by assumption)); clear ht hk))
    all_goals (
      go_wp2_with (fail)
      obtain ⟨A, mm, c, A', m', c', h1, h2, hap⟩ := HT.out.ex
      have H1 := Aside0.mk h1
      have H2 := Aside0.mk h2
      have qx := h2.rc.c1
      clear h1 h2 hap
      go_region_held3 (fun w' => w'.cell? ⟨xg, 1, none⟩ = some (.slice A' m' c') ∧ Aside0 (Below wz.heap.size wz w')) ((first | exact keepX H2.out (by assumption))) (first | (go_at_call 22; refine (bytes_fresh (H1.out.below (Aside0.out (by assumption)))).mono ?_; rintro e w22 ⟨⟨v, rfl, hr⟩, hb⟩; obtain ⟨A6, c6, rfl⟩ := Kd.R_slice hr; have HE6 := Aside0.mk hr; have HB6 := Aside0.mk (Below.trans (Aside0.out (by assumption) : Below wz.heap.size wz _) (hb.mono (Below.size (Aside0.out (by assumption) : Below wz.heap.size wz _)))); clear hr hb) | (go_at_call 29; refine (equal_bytes HE6.out (H2.out.below HB6.out).row).mono ?_; rintro e w29 ⟨rfl, rfl⟩))
      go_wp2_with (fail)
      go_ret
      exact ⟨rfl, _, HT.out.below HB6.out H9.out⟩
    )
  by_cases h5 : kd = 5
  · subst h5
    go_enter Tryz.func26, Tryz.ntmps26
    go_upto_region 3 with (fail)
    obtain ⟨wa, hwa⟩ : ∃ wa, wa = w.alloc (.cells #[.int .i64 5, .int .i64 n, .int .i64 m, .string line] 57) := ⟨_, rfl⟩
    obtain ⟨gb, hgb⟩ : ∃ gb, gb = w.heap.size := ⟨_, rfl⟩
    have HT := Aside0.mk (show Two B W0 wa rg xg x x by rw [hwa]; exact HT0.out)
    have HX := Aside0.mk (show wa.heap[gb]? = some (.cells #[.int .i64 5, .int .i64 n, .int .i64 m, .string line] 57 (0, 0)) by rw [hwa, hgb]; exact HX0.out)
    rw [← hwa, ← hgb]
    clear hwa hgb HT0 HX0
    have b0 := (blk_cell HX.out 0).trans rfl
    have b1 := (blk_cell HX.out 1).trans rfl
    have b2 := (blk_cell HX.out 2).trans rfl
    have b3 := (blk_cell HX.out 3).trans rfl
    go_wp2_with (fail)
    have HTd := Aside0.mk (HT.out.below (w' := wa.drew) (below_drew1 (Below.refl _ wa)) H9.out)
    have HAd := Aside0.mk (show ActAt wa.drew gb 5 n m line from HX.out)
    clear b0 b1 b2 b3
    go_region_held3 (fun w' => w'.cell? ⟨gb, 1, none⟩ = some (.int .i64 n) ∧ w'.cell? ⟨gb, 2, none⟩ = some (.int .i64 m) ∧ Aside0 (ActAt w' gb 5 n m line)) ((first | exact keepAct (by assumption))) (first | (go_at_call 50; refine (two_cut_x HTr.out H9.out n).mono ?_; rintro e wz ⟨rfl, ht, hk⟩; have HT := Aside0.mk ht; have HAz := Aside0.mk (hk.act (by assumption)); have HBr := Aside0.mk (show Below wz.heap.size wz wz.drew from below_drew1 (Below.refl _ wz)); clear ht hk) | (go_at_call 33; refine (two_cut_r HTx.out H9.out n).mono ?_; rintro e wz ⟨rfl, ht, hk⟩; have HT := Aside0.mk ht; have HAz := Aside0.mk (hk.act (by assumption)); have HBr := Aside0.mk (show Below wz.heap.size wz wz.drew from below_drew1 (Below.refl _ wz)); clear ht hk) | (go_at_call 33; refine (two_cut_r HTd.out H9.out n).mono ?_; rintro e w1 ⟨rfl, ht, hk⟩; have HTr := Aside0.mk ht; have HA1 := Aside0.mk (hk.act (by assumption)); clear ht hk) | (go_at_call 50; refine (two_cut_x HTd.out H9.out n).mono ?_; rintro e w1 ⟨rfl, ht, hk⟩; have HTx := Aside0.mk ht; have HA1 := Aside0.mk (hk.act (by assumption)); clear ht hk))
    all_goals (
      go_wp2_with (fail)
      obtain ⟨A, mm, c, A', m', c', h1, h2, hap⟩ := HT.out.ex
      have H1 := Aside0.mk h1
      have H2 := Aside0.mk h2
      have qx := h2.rc.c1
      clear h1 h2 hap
      go_region_held3 (fun w' => w'.cell? ⟨xg, 1, none⟩ = some (.slice A' m' c') ∧ Aside0 (Below wz.heap.size wz w')) ((first | exact keepX H2.out (by assumption))) (first | (go_at_call 22; refine (bytes_fresh (H1.out.below (Aside0.out (by assumption)))).mono ?_; rintro e w22 ⟨⟨v, rfl, hr⟩, hb⟩; obtain ⟨A6, c6, rfl⟩ := Kd.R_slice hr; have HE6 := Aside0.mk hr; have HB6 := Aside0.mk (Below.trans (Aside0.out (by assumption) : Below wz.heap.size wz _) (hb.mono (Below.size (Aside0.out (by assumption) : Below wz.heap.size wz _)))); clear hr hb) | (go_at_call 29; refine (equal_bytes HE6.out (H2.out.below HB6.out).row).mono ?_; rintro e w29 ⟨rfl, rfl⟩))
      go_wp2_with (fail)
      go_ret
      exact ⟨rfl, _, HT.out.below HB6.out H9.out⟩
    )
  by_cases h3 : kd = 3
  · subst h3
    go_enter Tryz.func26, Tryz.ntmps26
    go_upto_region 3 with (fail)
    obtain ⟨wa, hwa⟩ : ∃ wa, wa = w.alloc (.cells #[.int .i64 3, .int .i64 n, .int .i64 m, .string line] 57) := ⟨_, rfl⟩
    obtain ⟨gb, hgb⟩ : ∃ gb, gb = w.heap.size := ⟨_, rfl⟩
    have HT := Aside0.mk (show Two B W0 wa rg xg x x by rw [hwa]; exact HT0.out)
    have HX := Aside0.mk (show wa.heap[gb]? = some (.cells #[.int .i64 3, .int .i64 n, .int .i64 m, .string line] 57 (0, 0)) by rw [hwa, hgb]; exact HX0.out)
    rw [← hwa, ← hgb]
    clear hwa hgb HT0 HX0
    have b0 := (blk_cell HX.out 0).trans rfl
    have b1 := (blk_cell HX.out 1).trans rfl
    have b2 := (blk_cell HX.out 2).trans rfl
    have b3 := (blk_cell HX.out 3).trans rfl
    have kb := fun W => print_bytes (P := Tryz.prog) 9 45 5 Tryz.underlying9 Tryz.underlying45 Tryz.underlying5 line W
    have har := two_app_rF HT.out H9.out HN.out.2 (grownCap_ge wa line.size 0 5)
    obtain ⟨cd, hcd⟩ : ∃ z, z = (if x.off = true then 8 else (appendV x (bytesOf line)).1) := ⟨_, rfl⟩
    obtain ⟨x', hx'⟩ : ∃ z, z = (if x.off = true then x else (appendV x (bytesOf line)).2) := ⟨_, rfl⟩
    rw [← hcd, ← hx'] at har
    have HAr := Aside0.mk har
    have hax := fun (w : World) (h : Two B W0 w rg xg x' x) => two_app_x h H9.out HN.out.2 (grownCap_ge w line.size 0 5)
    rw [← hcd, ← hx'] at hax
    have HAx := Aside0.mk hax
    have hs64 : line.size ≤ 9223372036854775807 := HN.out.2
    clear hcd hx' har hax
    have HGb := Aside0.mk (show gb < wa.heap.size from blk_lt HX.out)
    have HXw := Aside0.mk (show (Lib.bytesWorld wa 5 line).heap[gb]? = some (.cells #[.int .i64 3, .int .i64 n, .int .i64 m, .string line] 57 (0, 0)) from (Lib.bytesWorld_at_old wa 5 line gb HGb.out).trans HX.out)
    go_wp2_with (go_at_call 31; refine HAr.out.mono ?_; rintro e w1 ⟨rfl, ht, hk, hrow, hlo⟩; have HTF := Aside0.mk ht; have HX1 := Aside0.mk (hk gb _ HXw.out); have HXr := Aside0.mk (bytes_xor hrow HN.out.2); have HLo := Aside0.mk hlo; clear ht hk hrow hlo)
    clear b0 b1 b2 b3
    obtain ⟨blk, hblk⟩ : ∃ b, b = wa.heap.size := ⟨_, rfl⟩
    rw [← hblk] at HTF HXr HLo HGb ⊢
    clear hblk
    go_loopw [23] (fun v23 wr => ∃ k : Nat, k ≤ line.size ∧ v23 = .int .i64 k ∧ Aside0 (XorAt w1 wr blk line.size) ∧ Aside0 (TwoF B W0 wr rg xg x' x blk)) (fun v23 _ => line.size - (intOf v23).toNat)
    case atStart => exact ⟨0, Nat.zero_le _, rfl, HXr, HTF⟩
    case round =>
      obtain ⟨k, hk, rfl, hxr, htf⟩ := hrel
      by_cases hkn : k < line.size
      · have i0 : (0 : Int) ≤ (k : Int) := by omega
        have i1 : (k : Int) < (line.size : Int) := by omega
        obtain ⟨v, hv⟩ := hxr.out.cell k hkn
        have hz := hxr.out.fz k hkn
        have HKn := Aside0.mk hkn
        replace i0 := eq_true i0
        replace i1 := eq_true i1
        go_wp2_with (fail)
        exact ⟨⟨k + 1, by have := HKn.out; omega, by first | rfl | simp, ⟨hxr.out.set HKn.out _⟩, ⟨htf.out.set HLo.out H9.out k _⟩⟩, by have := HKn.out; simp [intOf]; omega⟩
      · have i1 : ¬ (k : Int) < (line.size : Int) := by omega
        have b3 : wr.cell? ⟨gb, 3, none⟩ = some (.string line) := (World.cell?_of_block (hxr.out.oth gb (Nat.ne_of_lt HGb.out))).trans ((blk_cell HX1.out 3).trans rfl)
        go_wp2_with (go_at_call 48; refine (HAx.out wr htf.out.two).mono ?_; rintro e wz ⟨rfl, ht⟩; have HT := Aside0.mk ht; have HBr := Aside0.mk (show Below wz.heap.size wz wz.drew from below_drew1 (Below.refl _ wz)); clear ht)
        obtain ⟨A, mm, c, A', m', c', h1, h2, hap⟩ := HT.out.ex
        have H1 := Aside0.mk h1
        have H2 := Aside0.mk h2
        have qx := h2.rc.c1
        clear h1 h2 hap
        go_region_held3 (fun w' => w'.cell? ⟨xg, 1, none⟩ = some (.slice A' m' c') ∧ Aside0 (Below wz.heap.size wz w')) ((first | exact keepX H2.out (by assumption))) (first | (go_at_call 22; refine (bytes_fresh (H1.out.below (Aside0.out (by assumption)))).mono ?_; rintro e w22 ⟨⟨v, rfl, hr⟩, hb⟩; obtain ⟨A6, c6, rfl⟩ := Kd.R_slice hr; have HE6 := Aside0.mk hr; have HB6 := Aside0.mk (Below.trans (Aside0.out (by assumption) : Below wz.heap.size wz _) (hb.mono (Below.size (Aside0.out (by assumption) : Below wz.heap.size wz _)))); clear hr hb) | (go_at_call 29; refine (equal_bytes HE6.out (H2.out.below HB6.out).row).mono ?_; rintro e w29 ⟨rfl, rfl⟩))
        go_wp2_with (fail)
        go_ret
        exact ⟨rfl, _, HT.out.below HB6.out H9.out⟩
  have d3 : (kd == 3) = false := beq_eq_false_iff_ne.2 h3
  have d4 : (kd == 4) = false := beq_eq_false_iff_ne.2 h4
  have d5 : (kd == 5) = false := beq_eq_false_iff_ne.2 h5
  have d6 : (kd == 6) = false := beq_eq_false_iff_ne.2 h6
  have d7 : (kd == 7) = false := beq_eq_false_iff_ne.2 h7
  have d8 : (kd == 8) = false := beq_eq_false_iff_ne.2 h8
  clear h3 h4 h5 h6 h7 h8
  go_enter Tryz.func26, Tryz.ntmps26
  go_upto_region 3 with (fail)
  obtain ⟨wa, hwa⟩ : ∃ wa, wa = w.alloc (.cells #[.int .i64 kd, .int .i64 n, .int .i64 m, .string line] 57) := ⟨_, rfl⟩
  obtain ⟨gb, hgb⟩ : ∃ gb, gb = w.heap.size := ⟨_, rfl⟩
  have HT := Aside0.mk (show Two B W0 wa rg xg x x by rw [hwa]; exact HT0.out)
  have HX := Aside0.mk (show wa.heap[gb]? = some (.cells #[.int .i64 kd, .int .i64 n, .int .i64 m, .string line] 57 (0, 0)) by rw [hwa, hgb]; exact HX0.out)
  rw [← hwa, ← hgb]
  clear hwa hgb HT0 HX0
  have b0 := (blk_cell HX.out 0).trans rfl
  have b1 := (blk_cell HX.out 1).trans rfl
  have b2 := (blk_cell HX.out 2).trans rfl
  have b3 := (blk_cell HX.out 3).trans rfl
  go_wp2_with (fail)
  obtain ⟨wz, hwz⟩ : ∃ wz, wz = wa := ⟨_, rfl⟩
  rw [← hwz] at HT ⊢
  clear hwz
  have HBr := Aside0.mk (show Below wz.heap.size wz wz.drew from below_drew1 (Below.refl _ wz))
  obtain ⟨A, mm, c, A', m', c', h1, h2, hap⟩ := HT.out.ex
  have H1 := Aside0.mk h1
  have H2 := Aside0.mk h2
  have qx := h2.rc.c1
  clear h1 h2 hap
  go_region_held3 (fun w' => w'.cell? ⟨xg, 1, none⟩ = some (.slice A' m' c') ∧ Aside0 (Below wz.heap.size wz w')) ((first | exact keepX H2.out (by assumption))) (first | (go_at_call 22; refine (bytes_fresh (H1.out.below (Aside0.out (by assumption)))).mono ?_; rintro e w22 ⟨⟨v, rfl, hr⟩, hb⟩; obtain ⟨A6, c6, rfl⟩ := Kd.R_slice hr; have HE6 := Aside0.mk hr; have HB6 := Aside0.mk (Below.trans (Aside0.out (by assumption) : Below wz.heap.size wz _) (hb.mono (Below.size (Aside0.out (by assumption) : Below wz.heap.size wz _)))); clear hr hb) | (go_at_call 29; refine (equal_bytes HE6.out (H2.out.below HB6.out).row).mono ?_; rintro e w29 ⟨rfl, rfl⟩))
  go_wp2_with (fail)
  go_ret
  exact ⟨rfl, _, HT.out.below HB6.out H9.out⟩
end
end Go.Proofs.YtoeeipkiadbnpaaGreatDoor.Lib10
end

section
namespace Go.Proofs.YtoeeipkiadbnpaaGreatDoor.Lib10
open Go.RowKit Go.Proofs.YtoeeipkiadbnpaaGreatDoorW.PrintWords Go.Proofs.YtoeeipkiadbnpaaGreatDoorW.PrintLast Go.Proofs.YtoeeipkiadbnpaaGreatDoorW.PrintMore
set_option linter.unusedVariables false
variable {B : Nat}
/-- An act. -/
structure ActV where
  kd : Int
  n : Int
  m : Int
  line : ByteArray
structure ActV.Ok (a : ActV) : Prop where
  n : a.n ≤ 9223372036854775807
  s : a.line.size ≤ 9223372036854775807
def ActsAt (W : World) (A : Option Addr) (l : List ActV) : Prop := ∀ j a, l[j]? = some a → ∃ ad, A = some ad ∧ W.cell? (ad.add (j * 4)) = some (.int .i64 a.kd) ∧ W.cell? { block := (ad.add (j * 4)).block, off := (ad.add (j * 4)).off + 1 } = some (.int .i64 a.n) ∧ W.cell? { block := (ad.add (j * 4)).block, off := (ad.add (j * 4)).off + 2 } = some (.int .i64 a.m) ∧ W.cell? { block := (ad.add (j * 4)).block, off := (ad.add (j * 4)).off + 3 } = some (.string a.line) ∧ a.Ok
theorem reels_end {W w5 : World} {xg k n6 : Nat} {x' : ReelV} (h : k < n6) (hw : wrap64 ((k : Int) + 1) = ((k + 1 : Nat) : Int)) (ht : Aside0 (Two W.heap.size W w5 W.heap.size xg x' x')) : (∃ (j : Nat) (x : ReelV), j ≤ n6 ∧ Value.int IntKind.i64 (wrap64 ((k : Int) + 1)) = Value.int IntKind.i64 (j : Int) ∧ Aside0 (Two W.heap.size W w5 W.heap.size xg x x)) ∧ n6 - (intOf (Value.int IntKind.i64 (wrap64 ((k : Int) + 1)))).toNat < n6 - (intOf (Value.int IntKind.i64 (k : Int))).toNat := by
  rw [hw]
  refine ⟨⟨k + 1, x', h, rfl, ht⟩, ?_⟩
  simp only [intOf, Int.toNat_natCast]
  omega
theorem two_new {W w1 w2 : World} {size : Int} (h0 : 1 ≤ size) (h1 : size ≤ 100000) (hr : Rec w1 W.heap.size (.slice none 0 0) (newReel size)) (hb1 : Below W.heap.size W w1) (hx : RefIs w1.heap.size w2 w1.heap.size none 0 0 (newReel size)) (hb2 : Below w1.heap.size w1 w2) (hT : Tabs W) : Two W.heap.size W w2 W.heap.size w1.heap.size (newReel size) (newReel size) := by
  have hf : Fine (newReel size) := ⟨h0, h1, by show (0 : Int) ≤ size; omega, by show (-1 : Int) ≤ -1; decide, by show (-1 : Int) ≤ _; decide⟩
  have hri : ReelIs W.heap.size w1 W.heap.size none 0 0 (newReel size) := ⟨hr, Nat.le_refl _, Kd.R_nil _ _ _ _ _, hf⟩
  have hlt := blk_lt hr
  have hb := hb1.trans (hb2.mono hb1.size)
  refine ⟨⟨none, 0, 0, none, 0, 0, hri.below hb2, ⟨hx.rc, hb1.size, Kd.R_nil _ _ _ _ _, hf⟩, fun k hk hx => ?_⟩, hT.below hb hT.low, hb⟩
  rcases hk with rfl | hk
  · rcases hx with e | hx
    · omega
    · cases hx
  · cases hk
section
set_option maxRecDepth 100000
set_option maxHeartbeats 2000000
theorem reels_walk {W : World} {A : Option Addr} {c n : Nat} {l : List ActV} (size : Int) (hl : l.length = n) (hnc : n ≤ c) (hA : ActsAt W A l) (hT : Tabs W) : Calls Tryz.prog 5 #[.int .i64 size, .slice A n c] W fun e w' => e = .returned (.bool true) ∧ Below W.heap.size W w' := by
  have HT := Aside0.mk hT
  have H9 := Aside0.mk hT.low
  by_cases hsz : size < 1 ∨ 100000 < size
  · have HN := Aside0.mk (newReel_no size W hsz)
    have HX := Aside0.mk (xnew_no size W hsz)
    clear hA hT hl hnc hsz
    go_enter Tryz.func5, Tryz.ntmps5
    go_wp2_with (first | (go_at_call 17; refine HN.out.mono ?_; rintro e w' ⟨rfl, rfl⟩) | (go_at_call 25; refine HX.out.mono ?_; rintro e w' ⟨rfl, rfl⟩) | (go_at_call 13; refine (awake_calls _ HT.out).mono ?_; rintro e we ⟨rfl, hbe⟩; have HBe := Aside0.mk hbe; clear hbe))
    go_ret
    exact ⟨rfl, HBe.out⟩
  · have h0 : 1 ≤ size := by omega
    have h1 : size ≤ 100000 := by omega
    have HN := Aside0.mk (newReel_ok size W h0 h1)
    have HX := Aside0.mk (fun w => xnew_ok size w h0 h1)
    have HS := Aside0.mk (And.intro h0 h1)
    have HA := Aside0.mk (And.intro hl hA)
    obtain ⟨n6, hn6⟩ : ∃ n6, n6 = min n 60 := ⟨_, rfl⟩
    have hmin : min (n : Int) 60 = (n6 : Int) := by omega
    have HN6 := Aside0.mk (show n6 ≤ n ∧ n6 ≤ 60 by omega)
    have hn6n : n6 ≤ n := by omega
    have hn6c : n6 ≤ c := by omega
    clear hA hT hl hsz h0 h1 hn6
    go_enter Tryz.func5, Tryz.ntmps5
    go_wp2_with (first | (go_at_call 17; refine HN.out.mono ?_; rintro e w1 ⟨rfl, hr, hb⟩; have HR1 := Aside0.mk hr; have HB1 := Aside0.mk hb; clear hr hb) | (go_at_call 25; refine (HX.out w1).mono ?_; rintro e w2 ⟨rfl, hx, hlt, hb⟩; have HT2 := Aside0.mk (two_new HS.out.1 HS.out.2 HR1.out HB1.out hx hb HT.out); clear hx hlt hb))
    clear hmin
    obtain ⟨xg, hxg⟩ : ∃ x, x = w1.heap.size := ⟨_, rfl⟩
    rw [← hxg] at HT2 ⊢
    clear hxg
    go_loopw [40] (fun v40 wr => ∃ (k : Nat) (x : ReelV), k ≤ n6 ∧ v40 = .int .i64 k ∧ Aside0 (Two W.heap.size W wr W.heap.size xg x x)) (fun v40 _ => n6 - (intOf v40).toNat)
    case atStart => exact ⟨0, _, Nat.zero_le _, rfl, HT2⟩
    case round =>
      obtain ⟨k, x, hk, rfl, htw⟩ := hrel
      by_cases hkn : k < n6
      · have i0 : (0 : Int) ≤ (k : Int) := by omega
        have i1 : (k : Int) < (n6 : Int) := by omega
        obtain ⟨⟨kd, an, am, line⟩, ha⟩ : ∃ a, l[k]? = some a := ⟨_, List.getElem?_eq_getElem (by have := HA.out.1; omega)⟩
        obtain ⟨ad, hAd, g0, g1, g2, g3, hok⟩ := HA.out.2 k _ ha
        simp only at g0 g1 g2 g3
        have hlt0 : ad.block < W.heap.size := by have h := World.block_lt_of_cell? _ _ g0; rwa [add_block] at h
        subst hAd
        have hbk : wr.heap[ad.block]? = W.heap[ad.block]? := htw.out.bel.block _ hlt0
        replace g0 := (World.cell?_of_block (w := W) (w' := wr) (by rw [add_block]; exact hbk)).trans g0
        replace g1 := (World.cell?_of_block (w := W) (w' := wr) (by show wr.heap[(ad.add (k * 4)).block]? = W.heap[(ad.add (k * 4)).block]?; rw [add_block]; exact hbk)).trans g1
        replace g2 := (World.cell?_of_block (w := W) (w' := wr) (by show wr.heap[(ad.add (k * 4)).block]? = W.heap[(ad.add (k * 4)).block]?; rw [add_block]; exact hbk)).trans g2
        replace g3 := (World.cell?_of_block (w := W) (w' := wr) (by show wr.heap[(ad.add (k * 4)).block]? = W.heap[(ad.add (k * 4)).block]?; rw [add_block]; exact hbk)).trans g3
        have HTa := Aside0.mk (htw.out.below (below_alloc (Below.refl _ wr) (.cells #[.int .i64 kd, .int .i64 an, .int .i64 am, .string line] 57)) H9.out)
        have HOk := Aside0.mk hok
        have HKn := Aside0.mk (And.intro hkn (wrap_step k (by have := HN6.out; omega)))
        clear ha hbk hok hlt0
        go_wp2_with (go_at_call 26; refine (touched_calls HTa.out H9.out kd an am line HOk.out.n HOk.out.s).mono ?_; rintro e w5 ⟨rfl, x', ht⟩; have HT5 := Aside0.mk ht; clear ht)
        exact reels_end HKn.out.1 HKn.out.2 HT5
      · have i1 : ¬ (k : Int) < (n6 : Int) := by omega
        go_wp2_with (go_at_call 13; refine (awake_calls _ htw.out.tabs).mono ?_; rintro e we ⟨rfl, hbe⟩; have HBe := Aside0.mk (htw.out.bel.trans (hbe.mono htw.out.bel.size)); clear hbe)
        go_ret
        exact ⟨rfl, HBe.out⟩
end
end Go.Proofs.YtoeeipkiadbnpaaGreatDoor.Lib10
end
