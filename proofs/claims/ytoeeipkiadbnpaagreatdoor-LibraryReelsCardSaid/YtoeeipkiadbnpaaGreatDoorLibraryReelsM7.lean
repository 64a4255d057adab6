/- Texts that the proof of LibraryReels needs, put together in build order by this session's program (wip/tools/claimtrim.py). -/
import Derived.Test.YtoeeipkiadbnpaaGreatDoorLibraryReelsM6
import Derived.Test.YtoeeipkiadbnpaaGreatDoorLibraryReelsM4
import Derived.WalkLawsBesides
import Derived.WalkSpells
import Derived.RangeFuncBox
section
namespace Go.Proofs.YtoeeipkiadbnpaaGreatDoor.Lib10
open Go.RowKit Go.Proofs.YtoeeipkiadbnpaaGreatDoorW.PrintWords Go.Proofs.YtoeeipkiadbnpaaGreatDoorW.PrintLast Go.Proofs.YtoeeipkiadbnpaaGreatDoorW.PrintMore
set_option linter.unusedVariables false
structure ReelV where
  b : List Int
  size : Int
  off : Bool
  fuse : Int
/-- The reel's record lies in block g. -/
def Rec (W : World) (g : Nat) (v : Value) (x : ReelV) : Prop := W.heap[g]? = some (.cells #[v, .int .i64 x.size, .bool x.off, .int .i64 x.fuse] 70 (0, 0))
/-- A reel: its record and its bytes, in blocks of F. -/
def ReelRep (F : Nat → Prop) (B : Nat) (W : World) (g : Nat) (x : ReelV) : Prop := F g ∧ ∃ v, Rec W g v x ∧ Kd.R (Kd.int .u8) 5 W B (fun k => F k ∧ k ≠ g) v x.b
abbrev ptr (g : Nat) : Value := .pointer (some ⟨g, 0, none⟩)
theorem Rec.c0 {W : World} {g : Nat} {v : Value} {x : ReelV} (h : Rec W g v x) : W.cell? ⟨g, 0, none⟩ = some v := (blk_cell h 0).trans rfl
theorem Rec.c1 {W : World} {g : Nat} {v : Value} {x : ReelV} (h : Rec W g v x) : W.cell? ⟨g, 1, none⟩ = some (.int .i64 x.size) := (blk_cell h 1).trans rfl
theorem Rec.c2 {W : World} {g : Nat} {v : Value} {x : ReelV} (h : Rec W g v x) : W.cell? ⟨g, 2, none⟩ = some (.bool x.off) := (blk_cell h 2).trans rfl
theorem Rec.c3 {W : World} {g : Nat} {v : Value} {x : ReelV} (h : Rec W g v x) : W.cell? ⟨g, 3, none⟩ = some (.int .i64 x.fuse) := (blk_cell h 3).trans rfl
theorem Rec.fz {W : World} {g : Nat} {v : Value} {x : ReelV} (h : Rec W g v x) (o : Nat) : W.frozen? ⟨g, o, none⟩ = false := by
  simp [World.frozen?, show W.heap[g]? = _ from h]
section
set_option maxRecDepth 100000
theorem none_calls {W : World} {g : Nat} {v : Value} {x : ReelV} (h : Rec W g v x) (hs : x.size ≠ 0) : Calls Tryz.prog 47 #[ptr g] W fun e w' => e = .returned (.bool false) ∧ W = w' := by
  have q := h.c1
  have hs' : (x.size == 0) = false := beq_eq_false_iff_ne.2 hs
  clear h hs
  go_enter Tryz.func47, Tryz.ntmps47
  go_wp2
  go_ret
  exact ⟨rfl, rfl⟩
theorem ready_calls {W : World} {g : Nat} {v : Value} {x : ReelV} (h : Rec W g v x) (hs : x.size ≠ 0) : Calls Tryz.prog 45 #[ptr g] W fun e w' => e = .returned (.int .i64 (if x.off = true then 8 else 0)) ∧ W = w' := by
  have q := h.c2
  have H := Aside0.mk h
  have HS := Aside0.mk hs
  clear h hs
  cases ho : x.off with
  | true =>
    rw [ho] at q
    clear ho
    go_enter Tryz.func45, Tryz.ntmps45
    go_wp2_with (go_at_call 47; refine (none_calls H.out HS.out).mono ?_; rintro e w' ⟨rfl, rfl⟩)
    go_ret
    exact ⟨rfl, rfl⟩
  | false =>
    rw [ho] at q
    clear ho
    go_enter Tryz.func45, Tryz.ntmps45
    go_wp2_with (go_at_call 47; refine (none_calls H.out HS.out).mono ?_; rintro e w' ⟨rfl, rfl⟩)
    go_ret
    exact ⟨rfl, rfl⟩
/-- Block g alone is written. -/
structure Turn (W W' : World) (g : Nat) : Prop where
  sz : W'.heap.size = W.heap.size
  oth : ∀ i, i ≠ g → W'.heap[i]? = W.heap[i]?
  bel : Below g W W'
theorem Turn.set (W : World) (g o : Nat) (v : Value) : Turn W (W.setCell ⟨g, o, none⟩ v) g := ⟨by simp [World.setCell], fun i hi => Below.heap_setCell W ⟨g, o, none⟩ v i hi, (Below.refl g W).setCell (p := ⟨g, o, none⟩) (Nat.le_refl _) _⟩
theorem Turn.refl (W : World) (g : Nat) : Turn W W g := ⟨rfl, fun _ _ => rfl, Below.refl _ _⟩
theorem Turn.trans {W W1 W2 : World} {g : Nat} (h : Turn W W1 g) (k : Turn W1 W2 g) : Turn W W2 g := ⟨k.sz.trans h.sz, fun i hi => (k.oth i hi).trans (h.oth i hi), h.bel.trans k.bel⟩
theorem Turn.kept {W W' : World} {g : Nat} {F : Nat → Prop} (h : Turn W W' g) (hg : F g) : Kept W W' F := ⟨Nat.le_of_eq h.sz.symm, fun i _ hn => h.oth i (fun e => hn (e ▸ hg))⟩
theorem Rec.same {W W' : World} {g : Nat} {v : Value} {x : ReelV} (h : Rec W g v x) (hs : W'.heap[g]? = W.heap[g]?) : Rec W' g v x := hs.trans h
theorem Rec.set0 {W : World} {g : Nat} {v : Value} {x : ReelV} (h : Rec W g v x) (u : Value) (bs : List Int) : Rec (W.setCell ⟨g, 0, none⟩ u) g u { x with b := bs } := blk_put (cs := #[v, .int .i64 x.size, .bool x.off, .int .i64 x.fuse]) h 0 u rfl
theorem Rec.set2 {W : World} {g : Nat} {v : Value} {x : ReelV} (h : Rec W g v x) (o : Bool) : Rec (W.setCell ⟨g, 2, none⟩ (.bool o)) g v { x with off := o } := blk_put (cs := #[v, .int .i64 x.size, .bool x.off, .int .i64 x.fuse]) h 2 (.bool o) rfl
theorem Rec.set3 {W : World} {g : Nat} {v : Value} {x : ReelV} (h : Rec W g v x) (f : Int) : Rec (W.setCell ⟨g, 3, none⟩ (.int .i64 f)) g v { x with fuse := f } := blk_put (cs := #[v, .int .i64 x.size, .bool x.off, .int .i64 x.fuse]) h 3 (.int .i64 f) rfl
theorem burnt_yes {W : World} {g : Nat} {v : Value} {x : ReelV} (h : Rec W g v x) (hf : x.fuse = 0) : Calls Tryz.prog 57 #[ptr g] W fun e w' => e = .returned (.int .i64 8) ∧ Rec w' g v { x with off := true } ∧ Turn W w' g := by
  have q := h.c3
  rw [hf] at q
  have q2 := h.c2
  have z2 := h.fz 2
  have H := Aside0.mk h
  clear h hf
  go_enter Tryz.func57, Tryz.ntmps57
  go_wp2
  go_ret
  exact ⟨rfl, H.out.set2 true, Turn.set _ _ _ _⟩
theorem burnt_no {W : World} {g : Nat} {v : Value} {x : ReelV} (h : Rec W g v x) (hf : x.fuse ≠ 0) : Calls Tryz.prog 57 #[ptr g] W fun e w' => e = .returned (.int .i64 0) ∧ W = w' := by
  have q := h.c3
  have hf' : (x.fuse == 0) = false := beq_eq_false_iff_ne.2 hf
  clear h hf
  go_enter Tryz.func57, Tryz.ntmps57
  go_wp2
  go_ret
  exact ⟨rfl, rfl⟩
/-- The fuse, one byte less. -/
def less (f : Int) : Int := if f - 1 < -1 then -1 else f - 1
theorem spend_calls {W : World} {g : Nat} {v : Value} {x : ReelV} (h : Rec W g v x) (h0 : -1 ≤ x.fuse) (h1 : x.fuse ≤ 9223372036854775807) : Calls Tryz.prog 58 #[ptr g] W fun e w' => (∃ u, e = .returned u) ∧ Rec w' g v { x with fuse := less x.fuse } ∧ Turn W w' g := by
  have q := h.c3
  have z := h.fz 3
  have H := Aside0.mk h
  generalize hfu : x.fuse = f at q h0 h1
  have HF := Aside0.mk hfu
  clear h hfu
  have hw : wrap64 (f - 1) = f - 1 := by unfold wrap64; omega
  by_cases c : f - 1 < -1
  · have e1 : less f = -1 := by unfold less; rw [if_pos c]
    go_enter Tryz.func58, Tryz.ntmps58
    go_wp2
    go_end0
    exact ⟨⟨_, rfl⟩, by rw [e1]; exact H.out.set3 (-1), Turn.set _ _ _ _⟩
  · have e1 : less f = f - 1 := by unfold less; rw [if_neg c]
    go_enter Tryz.func58, Tryz.ntmps58
    go_wp2
    go_end0
    exact ⟨⟨_, rfl⟩, by first | exact H.out.set3 (f - 1) | (rw [e1]; exact H.out.set3 (f - 1)), Turn.set _ _ _ _⟩
/-- A reel that a call returned. -/
structure Fine (x : ReelV) : Prop where
  size0 : 1 ≤ x.size
  size1 : x.size ≤ 100000
  len : (x.b.length : Int) ≤ x.size
  fuse0 : -1 ≤ x.fuse
  fuse1 : x.fuse ≤ 9223372036854775807
def newReel (size : Int) : ReelV := ⟨[], size, false, -1⟩
theorem newReel_ok (size : Int) (W : World) (h0 : 1 ≤ size) (h1 : size ≤ 100000) : Calls Tryz.prog 17 #[.int .i64 size] W fun e w' => e = .returned (.tuple #[ptr W.heap.size, .int .i64 0]) ∧ Rec w' W.heap.size (.slice none 0 0) (newReel size) ∧ Below W.heap.size W w' := by
  go_enter Tryz.func17, Tryz.ntmps17
  go_wp2
  go_ret2
  exact ⟨rfl, World.alloc_heap_new W _, below_alloc (Below.refl _ _) _⟩
theorem newReel_no (size : Int) (W : World) (h : size < 1 ∨ 100000 < size) : Calls Tryz.prog 17 #[.int .i64 size] W fun e w' => e = .returned (.tuple #[.pointer none, .int .i64 2]) ∧ W = w' := by
  by_cases c : size < 1
  · clear h
    go_enter Tryz.func17, Tryz.ntmps17
    go_wp2
    go_ret2
    exact ⟨rfl, rfl⟩
  · have c2 : 100000 < size := by omega
    clear h
    go_enter Tryz.func17, Tryz.ntmps17
    go_wp2
    go_ret2
    exact ⟨rfl, rfl⟩
theorem power_calls {W : World} {g : Nat} {v : Value} {x : ReelV} (h : Rec W g v x) (hs : x.size ≠ 0) : Calls Tryz.prog 21 #[ptr g] W fun e w' => (∃ u, e = .returned u) ∧ Rec w' g v { x with off := false, fuse := -1 } ∧ Turn W w' g := by
  have z2 := h.fz 2
  have z3 := h.fz 3
  have q2 := h.c2
  have q3 := h.c3
  have H := Aside0.mk h
  have HS := Aside0.mk hs
  clear h hs
  go_enter Tryz.func21, Tryz.ntmps21
  go_wp2_with (go_at_call 47; refine (none_calls H.out HS.out).mono ?_; rintro e w' ⟨rfl, rfl⟩)
  go_end0
  exact ⟨⟨_, rfl⟩, (H.out.set2 false).set3 (-1), (Turn.set _ _ _ _).trans (Turn.set _ _ _ _)⟩
theorem fuse_calls {W : World} {g : Nat} {v : Value} {x : ReelV} (k : Int) (h : Rec W g v x) (hs : x.size ≠ 0) : Calls Tryz.prog 19 #[ptr g, .int .i64 k] W fun e w' => (∃ u, e = .returned u) ∧ Rec w' g v { x with fuse := if k < -1 then -1 else k } ∧ Turn W w' g := by
  have z3 := h.fz 3
  have q3 := h.c3
  have H := Aside0.mk h
  have HS := Aside0.mk hs
  clear h hs
  by_cases c : k < -1
  · rw [if_pos c]
    go_enter Tryz.func19, Tryz.ntmps19
    go_wp2_with (go_at_call 47; refine (none_calls H.out HS.out).mono ?_; rintro e w' ⟨rfl, rfl⟩)
    go_end0
    exact ⟨⟨_, rfl⟩, H.out.set3 (-1), Turn.set _ _ _ _⟩
  · rw [if_neg c]
    go_enter Tryz.func19, Tryz.ntmps19
    go_wp2_with (go_at_call 47; refine (none_calls H.out HS.out).mono ?_; rintro e w' ⟨rfl, rfl⟩)
    go_end0
    exact ⟨⟨_, rfl⟩, H.out.set3 k, Turn.set _ _ _ _⟩
theorem ready_on {W : World} {g : Nat} {v : Value} {x : ReelV} (h : Rec W g v x) (hs : x.size ≠ 0) (ho : x.off = false) : Calls Tryz.prog 45 #[ptr g] W fun e w' => e = .returned (.int .i64 0) ∧ W = w' := by
  have := ready_calls h hs
  rw [ho] at this
  exact this
theorem ready_off {W : World} {g : Nat} {v : Value} {x : ReelV} (h : Rec W g v x) (hs : x.size ≠ 0) (ho : x.off = true) : Calls Tryz.prog 45 #[ptr g] W fun e w' => e = .returned (.int .i64 8) ∧ W = w' := by
  have := ready_calls h hs
  rw [ho] at this
  exact this
theorem cut_off {W : World} {g : Nat} {v : Value} {x : ReelV} (n : Int) (h : Rec W g v x) (hs : x.size ≠ 0) (ho : x.off = true) : Calls Tryz.prog 33 #[ptr g, .int .i64 n] W fun e w' => e = .returned (.int .i64 8) ∧ W = w' := by
  have HR := Aside0.mk (ready_off h hs ho)
  clear h hs ho
  go_enter Tryz.func33, Tryz.ntmps33
  go_wp2_with (go_at_call 45; refine HR.out.mono ?_; rintro e w' ⟨rfl, rfl⟩)
  go_ret
  exact ⟨rfl, rfl⟩
theorem cut_no {W : World} {g : Nat} {x : ReelV} {A : Option Addr} {m c : Nat} (n : Int) (h : Rec W g (.slice A m c) x) (hs : x.size ≠ 0) (ho : x.off = false) (hn : n < 0 ∨ (m : Int) < n) : Calls Tryz.prog 33 #[ptr g, .int .i64 n] W fun e w' => e = .returned (.int .i64 2) ∧ W = w' := by
  have HR := Aside0.mk (ready_on h hs ho)
  have q0 := h.c0
  clear h hs ho
  by_cases c0 : n < 0
  · clear hn
    go_enter Tryz.func33, Tryz.ntmps33
    go_wp2_with (go_at_call 45; refine HR.out.mono ?_; rintro e w' ⟨rfl, rfl⟩)
    go_ret
    exact ⟨rfl, rfl⟩
  · have c1 : (m : Int) < n := by omega
    clear hn
    go_enter Tryz.func33, Tryz.ntmps33
    go_wp2_with (go_at_call 45; refine HR.out.mono ?_; rintro e w' ⟨rfl, rfl⟩)
    go_ret
    exact ⟨rfl, rfl⟩
theorem cut_ok {W : World} {g : Nat} {x : ReelV} {A : Option Addr} {m c : Nat} (n : Nat) (h : Rec W g (.slice A m c) x) (hs : x.size ≠ 0) (ho : x.off = false) (hn : n ≤ m) (hc : m ≤ c) (bs : List Int) :
    Calls Tryz.prog 33 #[ptr g, .int .i64 n] W fun e w' => e = .returned (.int .i64 0) ∧ Rec w' g (.slice A n c) { x with b := bs } ∧ Turn W w' g := by
  have HR := Aside0.mk (ready_on h hs ho)
  have q0 := h.c0
  have z0 := h.fz 0
  have H := Aside0.mk h
  clear h hs ho
  have c0 : ¬ (n : Int) < 0 := by omega
  have c1 : ¬ (m : Int) < (n : Int) := by omega
  go_enter Tryz.func33, Tryz.ntmps33
  go_wp2_with (go_at_call 45; refine HR.out.mono ?_; rintro e w' ⟨rfl, rfl⟩)
  go_ret
  exact ⟨rfl, H.out.set0 _ bs, Turn.set _ _ _ _⟩
theorem put_off {W : World} {g : Nat} {v : Value} {x : ReelV} (i b : Int) (h : Rec W g v x) (hs : x.size ≠ 0) (ho : x.off = true) : Calls Tryz.prog 32 #[ptr g, .int .i64 i, .int .u8 b] W fun e w' => e = .returned (.int .i64 8) ∧ W = w' := by
  have HR := Aside0.mk (ready_off h hs ho)
  clear h hs ho
  go_enter Tryz.func32, Tryz.ntmps32
  go_wp2_with (go_at_call 45; refine HR.out.mono ?_; rintro e w' ⟨rfl, rfl⟩)
  go_ret
  exact ⟨rfl, rfl⟩
theorem put_no {W : World} {g : Nat} {x : ReelV} {A : Option Addr} {m c : Nat} (i b : Int) (h : Rec W g (.slice A m c) x) (hs : x.size ≠ 0) (ho : x.off = false) (hn : i < 0 ∨ (m : Int) ≤ i) : Calls Tryz.prog 32 #[ptr g, .int .i64 i, .int .u8 b] W fun e w' => e = .returned (.int .i64 2) ∧ W = w' := by
  have HR := Aside0.mk (ready_on h hs ho)
  have q0 := h.c0
  clear h hs ho
  by_cases c0 : i < 0
  · clear hn
    go_enter Tryz.func32, Tryz.ntmps32
    go_wp2_with (go_at_call 45; refine HR.out.mono ?_; rintro e w' ⟨rfl, rfl⟩)
    go_ret
    exact ⟨rfl, rfl⟩
  · have c1 : (m : Int) ≤ i := by omega
    clear hn
    go_enter Tryz.func32, Tryz.ntmps32
    go_wp2_with (go_at_call 45; refine HR.out.mono ?_; rintro e w' ⟨rfl, rfl⟩)
    go_ret
    exact ⟨rfl, rfl⟩
theorem put_burnt {W : World} {g : Nat} {x : ReelV} {A : Option Addr} {m c : Nat} (i : Nat) (b : Int) (h : Rec W g (.slice A m c) x) (hs : x.size ≠ 0) (ho : x.off = false) (hn : i < m) (hf : x.fuse = 0) :
    Calls Tryz.prog 32 #[ptr g, .int .i64 i, .int .u8 b] W fun e w' => e = .returned (.int .i64 8) ∧ Rec w' g (.slice A m c) { x with off := true } ∧ Turn W w' g := by
  have HR := Aside0.mk (ready_on h hs ho)
  have HB := Aside0.mk (burnt_yes h hf)
  have q0 := h.c0
  clear h hs ho hf
  have c0 : ¬ (i : Int) < 0 := by omega
  have c1 : ¬ (m : Int) ≤ (i : Int) := by omega
  go_enter Tryz.func32, Tryz.ntmps32
  go_wp2_with (first | (go_at_call 45; refine HR.out.mono ?_; rintro e w' ⟨rfl, rfl⟩) | (go_at_call 57; refine HB.out.mono ?_; rintro e w' ⟨rfl, h1, h2⟩; have H1 := Aside0.mk h1; have H2 := Aside0.mk h2; clear h1 h2))
  go_ret
  exact ⟨rfl, H1.out, H2.out⟩
theorem put_ok {W : World} {g : Nat} {x : ReelV} {blk off : Nat} {m c : Nat} {cell : Value} (i : Nat) (b : Int) (h : Rec W g (.slice (some ⟨blk, off, none⟩) m c) x) (hs : x.size ≠ 0) (ho : x.off = false) (hn : i < m) (hf : x.fuse ≠ 0) (hf0 : -1 ≤ x.fuse) (hf1 : x.fuse ≤ 9223372036854775807) (hne : blk ≠ g)
    (hcell : W.cell? ⟨blk, off + i, none⟩ = some cell) (hfz : W.frozen? ⟨blk, off + i, none⟩ = false) (bs : List Int) :
    Calls Tryz.prog 32 #[ptr g, .int .i64 i, .int .u8 b] W fun e w' => e = .returned (.int .i64 0) ∧ ∃ w1, Rec w1 g (.slice (some ⟨blk, off, none⟩) m c) { x with fuse := less x.fuse, b := bs } ∧ Turn W w1 g ∧ w' = w1.setCell ⟨blk, off + i, none⟩ (.int .u8 b) := by
  have HR := Aside0.mk (ready_on h hs ho)
  have HB := Aside0.mk (burnt_no h hf)
  have HS := Aside0.mk (spend_calls h hf0 hf1)
  have q0 := h.c0
  have HC := Aside0.mk hcell
  have HF := Aside0.mk hfz
  clear h hs ho hf hcell hfz
  have c0 : ¬ (i : Int) < 0 := by omega
  have c1 : ¬ (m : Int) ≤ (i : Int) := by omega
  go_enter Tryz.func32, Tryz.ntmps32
  go_wp2_with (first | (go_at_call 45; refine HR.out.mono ?_; rintro e w' ⟨rfl, rfl⟩) | (go_at_call 57; refine HB.out.mono ?_; rintro e w' ⟨rfl, rfl⟩) | (go_at_call 58; refine HS.out.mono ?_; rintro e w1 ⟨⟨u, rfl⟩, h1, h2⟩; have q1 := h1.c0; have hc1 := (World.cell?_of_block (h2.oth blk hne)).trans HC.out; have hz1 : w1.frozen? ⟨blk, off + i, none⟩ = false := ((by simp only [World.frozen?, h2.oth blk hne]) : w1.frozen? ⟨blk, off + i, none⟩ = W.frozen? ⟨blk, off + i, none⟩).trans HF.out; have H1 := Aside0.mk h1; have H2 := Aside0.mk h2; clear h1 h2))
  go_ret
  exact ⟨rfl, _, H1.out, H2.out, rfl⟩
end
end Go.Proofs.YtoeeipkiadbnpaaGreatDoor.Lib10
end
