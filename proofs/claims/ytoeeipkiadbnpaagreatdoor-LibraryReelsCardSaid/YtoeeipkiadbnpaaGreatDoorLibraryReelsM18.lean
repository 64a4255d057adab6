/- Texts that the proof of LibraryReels needs, put together in build order by this session's program (wip/tools/claimtrim.py). -/
import Derived.Test.YtoeeipkiadbnpaaGreatDoorLibraryReelsM15
import Derived.Test.YtoeeipkiadbnpaaGreatDoorLibraryReelsM11
import Derived.Test.YtoeeipkiadbnpaaGreatDoorLibraryReelsM16
import Derived.Test.YtoeeipkiadbnpaaGreatDoorLibraryReelsM17
import Derived.Maps.OwnOps
import Derived.Maps.OwnSet
import Derived.BigQuiet
import Derived.StillTailTactics
section
namespace Go.Proofs.YtoeeipkiadbnpaaGreatDoor.Lib10
open Go.RowKit Go.Proofs.YtoeeipkiadbnpaaGreatDoorW.PrintWords Go.Proofs.YtoeeipkiadbnpaaGreatDoorW.PrintLast Go.Proofs.YtoeeipkiadbnpaaGreatDoorW.PrintMore
set_option linter.unusedVariables false
theorem keyOf9 {n : ByteArray} (h : n.size ≤ 100) : keyOf Tryz.prog 9 (.string n) = some (.string n.data.toList) := by
  have : n.size ≤ maxLen := Nat.le_trans h (by unfold maxLen; omega)
  simp [keyOf, mapKey, Tryz.underlying9, this]
theorem R_first {α : Type} {e base : Nat} {ok : Nat → Prop} {W : World} {v : Value} {enc : α → Value} {he} {x : α} {xs : List α} (h : (Kd.scalar enc he).R e W base ok v (x :: xs)) : ∃ a c, v = .slice (some ⟨a, 0, none⟩) (xs.length + 1) c ∧ a < W.heap.size ∧ W.cell? ⟨a, 0, none⟩ = some (enc x) := by
  obtain ⟨g, cap, rfl, _, hlt, _⟩ := Kd.R_form h (by simp)
  refine ⟨g, cap, by simp, hlt, ?_⟩
  have h1 := Kd.R_celln x h 0 (Int.le_refl _) (by simp; try omega)
  simpa [rdOf] using h1.1
theorem cell_alloc {W : World} {o : Obj} {a : Nat} (h : a < W.heap.size) (i : Nat) : (W.alloc o).cell? ⟨a, i, none⟩ = W.cell? ⟨a, i, none⟩ := by
  simp only [World.cell?]
  rw [Below.heap_alloc W o a h]
theorem cell_below {W W' : World} {p : Addr} {v : Value} (h : W.cell? p = some v) (hb : Below W.heap.size W W') : W'.cell? p = some v := by
  have hl : p.block < W.heap.size := by
    rcases Nat.lt_or_ge p.block W.heap.size with h1 | h1
    · exact h1
    · simp only [World.cell?] at h
      rw [Array.getElem?_eq_none h1] at h
      simp at h
  simp only [World.cell?] at h ⊢
  rw [hb.block p.block hl]
  exact h
def takenB (ch : List (Str × Int)) (c : Int) : Bool := ch.any fun p => p.2 == c
theorem taken_of_get {ch : List (Str × Int)} {k : Str} {c : Int} (h : get ch k = some c) : takenB ch c = true := List.any_eq_true.2 ⟨_, get_some_mem h, beq_self_eq_true c⟩
theorem keys_ints (ch : List (Str × Int)) : keysOf (ints ch) = keysOf ch := by simp [keysOf, ints]
theorem not_taken {ch : List (Str × Int)} {c : Int} (hn : (keysOf ch).Nodup) (h : ∀ k, get ch k ≠ some c) : takenB ch c = false := by
  cases ht : takenB ch c with
  | false => rfl
  | true =>
    obtain ⟨p, hp, hc⟩ := List.any_eq_true.1 ht
    have e : p.2 = c := by simpa using hc
    exact absurd (get_of_mem hn (k := p.1) (v := c) (by rw [← e]; exact hp)) (h p.1)
theorem put_map {α β : Type} (f : α → β) (k : Str) (v : α) : ∀ l : List (Str × α), put (l.map fun p => (p.1, f p.2)) k (f v) = (put l k v).map fun p => (p.1, f p.2)
  | [] => rfl
  | p :: l => by
    rw [List.map_cons, put, put]
    split
    · rfl
    · rw [put_map f k v l]; rfl
theorem put_ints (ch : List (Str × Int)) (k : Str) (c : Int) : put (ints ch) k (.int .i64 c) = ints (put ch k c) := put_map _ k c ch
theorem wpList_update_named {P : Program} (w : World) {ops : Array Oper} {rest : List Oper} {o : Oper} {a : Act} {Q : Exit → Act → World → Prop} (hg : o.guard = none) (m x v : Operand) (t : TypeId) (hop : o.op = Op.mapUpdate t m x v)
    (k e : TypeId) (K : Maps.Keyed P k) (ht : P.underlying t = some (.map k e)) (b : Nat) (mm : List (Str × Value)) (hm : a.eval m = .map (some b)) (h : MapRep P k w b mm) (hn : mm.length < 1000) (key val : Value) (kl : Str) (hx : a.eval x = key) (hv : a.eval v = val) (hkey : keyOf P k key = some (.string kl))
    (hK : ∀ w', MapRep P k w' b (put mm kl val) → w.grownBy w' (some b) → w'.heap.size = w.heap.size → wpList P ops Q rest (a.put o.dst undef) w') :
    wpList P ops Q (o :: rest) a w := by
  refine wpList_plain hg fun K' hK' => ?_
  obtain ⟨w', hrun, r1, r2, r3⟩ := h.store K ht hn (val := val) hkey
  unfold Oper.wp
  simp [execOp, hop, hm, hx, hv, hrun, Result.andThen]
  exact hK' _ _ (hK w' r1 r2 r3)
def playerE (ch : List (Str × Int)) (n : ByteArray) (c : Int) : Int := if (get ch n.data.toList).isSome || takenB ch c then 5 else if decide (1 ≤ c) && decide (c ≤ 8) then 0 else 2
/-- A line's record has been laid: what stands in the world. -/
structure Laid (W : World) (g b1 b2 b3 : Nat) (m1 m2 m3 : List (Str × Value)) (v1 v2 : Value) (W1 : World) : Prop where
  st : StRec W1 g b1 b2 b3 m1 m2 m3
  f0 : W1.cell? ⟨W.heap.size, 0, none⟩ = some v1
  f1 : W1.cell? ⟨W.heap.size, 1, none⟩ = some v2
  bel : Below W.heap.size W W1
theorem Laid.below {W W1 W2 : World} {g b1 b2 b3 : Nat} {m1 m2 m3 : List (Str × Value)} {v1 v2 : Value} (h : Laid W g b1 b2 b3 m1 m2 m3 v1 v2 W1) (hb : Below W1.heap.size W1 W2) : Laid W g b1 b2 b3 m1 m2 m3 v1 v2 W2 :=
  ⟨h.st.below hb, cell_below h.f0 hb, cell_below h.f1 hb, h.bel.trans (hb.mono h.bel.size)⟩
section
set_option maxRecDepth 100000
set_option maxHeartbeats 2000000
theorem isChair_calls (c : Int) (W : World) : Calls Tryz.prog 112 #[.int .i64 c] W fun e w' => e = .returned (.bool (decide (1 ≤ c) && decide (c ≤ 8))) ∧ W = w' := by
  by_cases h1 : 1 ≤ c
  · by_cases h2 : c ≤ 8
    · have d1 : decide (1 ≤ c) = true := decide_eq_true h1
      have d2 : decide (c ≤ 8) = true := decide_eq_true h2
      go_enter Tryz.func112, Tryz.ntmps112
      go_wp2
      go_ret
      exact ⟨by first | rfl | simp [d1, d2], rfl⟩
    · have d1 : decide (1 ≤ c) = true := decide_eq_true h1
      have d2 : decide (c ≤ 8) = false := decide_eq_false h2
      go_enter Tryz.func112, Tryz.ntmps112
      go_wp2
      go_ret
      exact ⟨by first | rfl | simp [d1, d2], rfl⟩
  · have d1 : decide (1 ≤ c) = false := decide_eq_false h1
    go_enter Tryz.func112, Tryz.ntmps112
    go_wp2
    go_ret
    exact ⟨by first | rfl | simp [d1], rfl⟩
theorem laid {W : World} {g b1 b2 b3 : Nat} {m1 m2 m3 : List (Str × Value)} (h : StRec W g b1 b2 b3 m1 m2 m3) (v1 v2 : Value) : Laid W g b1 b2 b3 m1 m2 m3 v1 v2 (W.alloc (.cells #[v1, v2] 110)) where
  st := h.below (below_alloc (Below.refl _ _) _)
  f0 := (blk_cell (World.alloc_heap_new W _) 0).trans rfl
  f1 := (blk_cell (World.alloc_heap_new W _) 1).trans rfl
  bel := below_alloc (Below.refl _ _) _
theorem Laid.look2 {W W1 : World} {g b1 b2 b3 : Nat} {m1 m3 : List (Str × Value)} {ch : List (Str × Int)} {v1 v2 : Value} (h : Laid W g b1 b2 b3 m1 (ints ch) m3 v1 v2 W1) {n : ByteArray} (hn : n.size ≤ 100) (nq : Nat) :
    (Instr.lookup 125 (.map (some b2)) (.string n) true).run Tryz.prog (W1.drewN nq) = .ok (.tuple #[.int .i64 ((get ch n.data.toList).getD 0), .bool (get ch n.data.toList).isSome]) (W1.drewN nq) := by
  have h1 := (h.st.p2.same (W' := W1.drewN nq) rfl).look law9 Tryz.underlying125 (z := .int .i64 0) (by first | exact Tryz.zero3 _ | simp [go_sem]) (keyOf9 hn)
  rw [h1, get_ints]
  cases get ch n.data.toList <;> rfl
theorem sitter2 {W : World} {g b1 b2 b3 : Nat} {m1 m3 : List (Str × Value)} {ch : List (Str × Int)} (h : StRec W g b1 b2 b3 m1 (ints ch) m3) (c : Int) : Calls Tryz.prog 111 #[ptr g, .int .i64 c] W fun e w' =>
    (∃ n : ByteArray, e = .returned (.tuple #[.string n, .bool (takenB ch c)]) ∧ (takenB ch c = true → get ch n.data.toList = some c)) ∧ Below W.heap.size W w' := by
  have hn := h.p2.nodup
  rw [keys_ints] at hn
  refine (sitter_calls h c).mono fun e w' => ?_
  rintro ⟨⟨n, h1, rfl⟩ | ⟨h1, rfl⟩, hb⟩
  · exact ⟨⟨n, by rw [taken_of_get h1], fun _ => h1⟩, hb⟩
  · exact ⟨⟨_, by rw [not_taken hn h1], fun h2 => by rw [not_taken hn h1] at h2; cases h2⟩, hb⟩
/-- What player has made. -/
def PlayerPost (W : World) (g b1 b2 b3 : Nat) (m1 m3 : List (Str × Value)) (ch : List (Str × Int)) (n : ByteArray) (c : Int) (e : Ending) (w' : World) : Prop :=
  e = .returned (.int .i64 (playerE ch n c)) ∧ StRec w' g b1 b2 b3 m1 (ints (if playerE ch n c = 0 then put ch n.data.toList c else ch)) m3 ∧ Kept W w' (fun k => k = b2) ∧ Below b2 W w'
theorem player_no {W w' : World} {g b1 b2 b3 : Nat} {m1 m3 : List (Str × Value)} {ch : List (Str × Int)} {v1 v2 : Value} {n : ByteArray} {c z : Int} (hE : playerE ch n c = z) (hz : z ≠ 0) (HL : Laid W g b1 b2 b3 m1 (ints ch) m3 v1 v2 w') (hB : b2 ≤ W.heap.size) : PlayerPost W g b1 b2 b3 m1 m3 ch n c (.returned (.int .i64 z)) w' := by
  subst hE
  refine ⟨rfl, ?_, Kept.of_below HL.bel _, HL.bel.mono hB⟩
  rw [if_neg hz]
  exact HL.st
theorem player_calls {W : World} {g b1 b2 b3 : Nat} {m1 m3 : List (Str × Value)} {ch : List (Str × Int)} (h : StRec W g b1 b2 b3 m1 (ints ch) m3) (hne1 : b1 ≠ b2) (hne3 : b3 ≠ b2) (hlen : ch.length < 1000) {v1 v2 : Value} {B1 B2 : Nat} {F1 F2 : Nat → Prop} (n : ByteArray) (c : Int) (hn : n.size ≤ 100)
    (h1 : Kd.string.R 9 W B1 F1 v1 [n]) (h2 : (Kd.int .i64).R 3 W B2 F2 v2 [c]) : Calls Tryz.prog 67 #[ptr g, .agg #[v1, v2]] W fun e w' =>
    PlayerPost W g b1 b2 b3 m1 m3 ch n c e w' := by
  obtain ⟨a1, c1, rfl, l1, k1⟩ := R_first h1
  obtain ⟨a2, c2, rfl, l2, k2⟩ := R_first h2
  have HLen := Aside0.mk hlen
  have HB := Aside0.mk (show b2 ≤ W.heap.size from Nat.le_of_lt h.p2.lt)
  clear hlen
  go_enter Tryz.func67, Tryz.ntmps67
  go_wp2_with fail
  obtain ⟨W1, hW1⟩ : ∃ W1, W1 = W.alloc (.cells #[.slice (some ⟨a1, 0, none⟩) 1 c1, .slice (some ⟨a2, 0, none⟩) 1 c2] 110) := ⟨_, rfl⟩
  have HL := Aside0.mk (laid h (.slice (some ⟨a1, 0, none⟩) 1 c1) (.slice (some ⟨a2, 0, none⟩) 1 c2))
  rw [← hW1] at HL ⊢
  have r1 : W1.cell? ⟨g, 1, none⟩ = some (.map (some b2)) := (blk_cell HL.out.st.cells 1).trans rfl
  have r2 : W1.cell? ⟨a1, 0, none⟩ = some (.string n) := by rw [hW1]; exact (cell_alloc l1 0).trans k1
  have r3 : W1.cell? ⟨a2, 0, none⟩ = some (.int .i64 c) := by rw [hW1]; exact (cell_alloc l2 0).trans k2
  have f0 := HL.out.f0
  have f1 := HL.out.f1
  have hlk := fun nq => HL.out.look2 hn nq
  obtain ⟨th, hth⟩ : ∃ th, th = (get ch n.data.toList).isSome := ⟨_, rfl⟩
  obtain ⟨ol, hol⟩ : ∃ ol, ol = (get ch n.data.toList).getD 0 := ⟨_, rfl⟩
  rw [← hth, ← hol] at hlk
  have HTh := Aside0.mk hth
  clear hW1 l1 k1 l2 k2 h1 h2 h hth hol
  go_quiet (fail)
  obtain ⟨W2, hW2⟩ : ∃ W2, W2 = W1.drewN nq := ⟨_, rfl⟩
  have hb2 : Below W1.heap.size W1 W2 := by rw [hW2]; exact ⟨rfl, rfl, rfl, Nat.le_refl _, fun _ _ => rfl⟩
  have HL2 := Aside0.mk (HL.out.below hb2)
  replace r1 := cell_below r1 hb2
  replace r2 := cell_below r2 hb2
  replace r3 := cell_below r3 hb2
  replace f0 := cell_below f0 hb2
  replace f1 := cell_below f1 hb2
  rw [← hW2]
  have HS := Aside0.mk (sitter2 HL2.out.st c)
  obtain ⟨tk, htk⟩ : ∃ tk, tk = takenB ch c := ⟨_, rfl⟩
  have HTk := Aside0.mk htk
  rw [← htk] at HS
  clear hW2 hb2 hlk htk
  cases th with
  | true =>
    go_wp2_with (go_at_call 111; refine HS.out.mono ?_; rintro e W3 ⟨⟨nm, rfl, _⟩, hb⟩; have HL3 := Aside0.mk (HL2.out.below hb); replace r1 := cell_below r1 hb; clear hb)
    go_ret
    have hE : playerE ch n c = 5 := by unfold playerE; rw [← HTh.out]; rfl
    exact player_no hE (by decide) HL3.out HB.out
  | false =>
    cases tk with
    | true =>
      go_wp2_with (go_at_call 111; refine HS.out.mono ?_; rintro e W3 ⟨⟨nm, rfl, _⟩, hb⟩; have HL3 := Aside0.mk (HL2.out.below hb); replace r1 := cell_below r1 hb; clear hb)
      go_ret
      have hE : playerE ch n c = 5 := by unfold playerE; rw [← HTh.out, ← HTk.out]; rfl
      exact player_no hE (by decide) HL3.out HB.out
    | false =>
      cases hch : (decide (1 ≤ c) && decide (c ≤ 8)) with
      | false =>
        have HCh := Aside0.mk (fun w => isChair_calls c w)
        rw [hch] at HCh
        have HE := Aside0.mk hch
        clear hch
        go_wp2_with (first | (go_at_call 111; refine HS.out.mono ?_; rintro e W3 ⟨⟨nm, rfl, _⟩, hb⟩; have HL3 := Aside0.mk (HL2.out.below hb); replace r1 := cell_below r1 hb; replace r2 := cell_below r2 hb; replace r3 := cell_below r3 hb; replace f0 := cell_below f0 hb; replace f1 := cell_below f1 hb; clear hb) | (go_at_call 112; refine (HCh.out _).mono ?_; rintro e w ⟨rfl, rfl⟩))
        go_ret
        have hE : playerE ch n c = 2 := by unfold playerE; rw [← HTh.out, ← HTk.out, HE.out]; rfl
        exact player_no hE (by decide) HL3.out HB.out
      | true =>
        have HCh := Aside0.mk (fun w => isChair_calls c w)
        rw [hch] at HCh
        have HE := Aside0.mk hch
        clear hch
        go_wp2_with (first | (go_at_call 111; refine HS.out.mono ?_; rintro e W3 ⟨⟨nm, rfl, _⟩, hb⟩; have HL3 := Aside0.mk (HL2.out.below hb); replace r1 := cell_below r1 hb; replace r2 := cell_below r2 hb; replace r3 := cell_below r3 hb; replace f0 := cell_below f0 hb; replace f1 := cell_below f1 hb; clear hb) | (go_at_call 112; refine (HCh.out _).mono ?_; rintro e w ⟨rfl, rfl⟩))
        go_still_tail 12, (by kernel_rfl)
        change wpList _ _ _ _ _ W3.drew
        obtain ⟨W4, hW4⟩ : ∃ W4, W4 = W3.drew := ⟨_, rfl⟩
        have HL4 := Aside0.mk (HL3.out.below (W2 := W4) (by rw [hW4]; exact ⟨rfl, rfl, rfl, Nat.le_refl _, fun _ _ => rfl⟩))
        rw [← hW4]
        clear hW4
        refine wpList_update_named _ rfl _ _ _ 125 rfl 9 3 law9 Tryz.underlying125 b2 (ints ch) rfl HL4.out.st.p2 (by simp [ints]; exact HLen.out) (.string n) (.int .i64 c) _ rfl rfl (keyOf9 hn) ?_
        intro W5 hm5 hg5 hs5
        rw [put_ints] at hm5
        have HM5 := Aside0.mk hm5
        have HG5 := Aside0.mk hg5
        clear hm5 hg5 hs5
        go_wp2_with fail
        go_ret
        have hE : playerE ch n c = 0 := by unfold playerE; rw [← HTh.out, ← HTk.out, HE.out]; rfl
        have hG := HG5.out
        have hst := HL4.out.st
        have hbb := HL4.out.bel
        refine ⟨by rw [hE]; rfl, ?_, ?_, ?_⟩
        · rw [if_pos hE]
          exact ⟨(hG.block g (blk_lt hst.cells) (fun e => by have h1 := hst.cells; obtain ⟨D, ⟨es, clock, hb, _⟩, _⟩ := hst.p2; have e2 : g = b2 := Option.some.inj e; rw [e2, hb] at h1; injection h1 with h1; cases h1)).trans hst.cells, hst.p1.same (hG.block b1 hst.p1.lt (fun e => hne1 (Option.some.inj e))), HM5.out, hst.p3.same (hG.block b3 hst.p3.lt (fun e => hne3 (Option.some.inj e)))⟩
        · exact (Kept.of_below hbb _).of_grown hG (fun k e => .inl (Option.some.inj e).symm)
        · exact (hbb.mono HB.out).grown hG (Nat.le_trans HB.out hbb.size) (fun k e => by cases e; exact Nat.le_refl _)
end
end Go.Proofs.YtoeeipkiadbnpaaGreatDoor.Lib10
end

section
namespace Go.Proofs.YtoeeipkiadbnpaaGreatDoor.Lib10
open Go.RowKit Go.Proofs.YtoeeipkiadbnpaaGreatDoorW.PrintWords Go.Proofs.YtoeeipkiadbnpaaGreatDoorW.PrintLast Go.Proofs.YtoeeipkiadbnpaaGreatDoorW.PrintMore
set_option linter.unusedVariables false
/-- A line's first word. -/
def headW (text : ByteArray) : ByteArray := ⟨(Lib.cut text.data.toList [32]).1.toArray⟩
theorem cut_calls (text : ByteArray) (W : World) (hT : Tabs W) (hs : text.size < 4294967281) : Calls Tryz.prog 37 #[.string text, .string ⟨#[32]⟩] W fun e w' => (∃ s b, e = .returned (.tuple #[.string (headW text), .string s, .bool b])) ∧ Below W.heap.size W w' := by
  obtain ⟨m, hm⟩ := hT.maxLen
  refine (Tryz.strings_Cut text ⟨#[32]⟩ m W hs hm).mono ?_
  rintro e w' ⟨rfl, n, rfl⟩
  exact ⟨⟨_, _, rfl⟩, rfl, rfl, rfl, Nat.le_refl _, fun _ _ => rfl⟩
section
set_option maxRecDepth 100000
set_option maxHeartbeats 2000000
theorem player_st {L : Nat} {W : World} {g : Nat} {m1 m3 : List (Str × Value)} {ch : List (Str × Int)} (h : IsSt (fun k => L ≤ k) W g m1 (ints ch) m3) (hlen : ch.length < 1000) {v1 v2 : Value} {B1 B2 : Nat} {F1 F2 : Nat → Prop} (n : ByteArray) (c : Int) (hn : n.size ≤ 100)
    (h1 : Kd.string.R 9 W B1 F1 v1 [n]) (h2 : (Kd.int .i64).R 3 W B2 F2 v2 [c]) : Calls Tryz.prog 67 #[ptr g, .agg #[v1, v2]] W fun e w' =>
    e = .returned (.int .i64 (playerE ch n c)) ∧ IsSt (fun k => L ≤ k) w' g m1 (ints (if playerE ch n c = 0 then put ch n.data.toList c else ch)) m3 ∧ Below L W w' := by
  obtain ⟨b1, b2, b3, s0, s1, s2, s3, n1, n2, n3, hr⟩ := h
  refine (player_calls hr n1 (fun e => n3 e.symm) hlen n c hn h1 h2).mono ?_
  rintro e w' ⟨he, hst, hk, hb⟩
  exact ⟨he, ⟨b1, b2, b3, s0, s1, s2, s3, n1, n2, n3, hst⟩, hb.mono s2⟩
abbrev wPlayer : ByteArray := ⟨#[112, 108, 97, 121, 101, 114]⟩
theorem do_player {S : Nat → Prop} {W : World} {g : Nat} {m1 m3 : List (Str × Value)} {ch : List (Str × Int)} (h : IsSt S W g m1 (ints ch) m3) (hT : Tabs W) (hlen : ch.length < 1000) (text : ByteArray) (hs : text.size < 4294967281) (hword : headW text = wPlayer)
    (hw : (wordsB text).length = 3) (hline : isLineB text = true) (n : ByteArray) (c : Int) (hn : n.size ≤ 100) (hsort : sortV [110, 100] (wordsB text).tail = some ([n], [c])) (hE : playerE ch n c = 0) :
    Calls Tryz.prog 40 #[ptr g, .string text] W fun e w' => (∃ g', e = .returned (.tuple #[ptr g', .string wPlayer, .int .i64 0]) ∧ IsSt (fun k => W.heap.size ≤ k) w' g' m1 (ints (put ch n.data.toList c)) m3) ∧ Below W.heap.size W w' := by
  have HT := Aside0.mk hT
  have HH := Aside0.mk h
  have HC := Aside0.mk (cut_calls text W hT hs)
  rw [hword] at HC
  have HR := Aside0.mk (fun (w : World) (hT : Tabs w) => read_ok ⟨#[110, 100]⟩ text w hT hs rfl 2 (by decide) rfl (by decide) hw hline [n] [c] hsort)
  have HP := Aside0.mk (And.intro hlen (And.intro hn hE))
  clear hT h hword hsort hlen hn hE hw hline
  go_enter Tryz.func40, Tryz.ntmps40
  go_wp2_with (first | (go_at_call 37; refine HC.out.mono ?_; rintro e w1 ⟨⟨s1, s2, rfl⟩, hb⟩; have HB1 := Aside0.mk hb; have HCl := Aside0.mk (clone_calls (HH.out.below hb)); clear hb) | (go_at_call 65; refine HCl.out.mono ?_; rintro e w2 ⟨⟨g', rfl, hi⟩, hb⟩; have HI2 := Aside0.mk hi; have HB2 := Aside0.mk (HB1.out.trans (hb.mono HB1.out.size)); clear hi hb) | (go_at_call 72; refine (HR.out _ (HT.out.below HB2.out HT.out.low)).mono ?_; rintro e w3 ⟨⟨v1, v2, rfl, hr1, hr2⟩, hb⟩; have HR1 := Aside0.mk hr1; have HR2 := Aside0.mk hr2; obtain ⟨A1, c1, rfl⟩ := Kd.R_slice hr1; obtain ⟨A2, c2, rfl⟩ := Kd.R_slice hr2; have HB3 := Aside0.mk (HB2.out.trans (hb.mono HB2.out.size)); have HI3 := Aside0.mk (HI2.out.below hb); have HPl := Aside0.mk (fun (o : Obj) => player_st (HI2.out.below hb |>.below (below_alloc (Below.refl _ _) o)) HP.out.1 n c HP.out.2.1 (Kd.R_below hr1 (below_alloc (Below.refl _ _) o)) (Kd.R_below hr2 (below_alloc (Below.refl _ _) o))); clear hr1 hr2 hb) | (go_at_call 67; refine (HPl.out _).mono ?_; rintro e w5 ⟨he, hi, hb⟩; rw [HP.out.2.2] at he; rw [if_pos HP.out.2.2] at hi; subst he; have HI5 := Aside0.mk hi; have HB5 := Aside0.mk ((below_alloc HB3.out _).trans (hb.mono HB1.out.size)); clear hi hb))
  refine bodyPost_ret (v := .tuple #[ptr g', .string wPlayer, .int .i64 0]) (by first | kernel_rfl | rfl | simp [results, Tryz.results40, go_sem]) rfl ⟨⟨g', rfl, ?_⟩, HB5.out⟩
  obtain ⟨b1, b2, b3, s0, s1, s2, s3, r⟩ := HI5.out
  have h1 := HB1.out.size
  exact ⟨b1, b2, b3, Nat.le_trans h1 s0, Nat.le_trans h1 s1, Nat.le_trans h1 s2, Nat.le_trans h1 s3, r⟩
end
end Go.Proofs.YtoeeipkiadbnpaaGreatDoor.Lib10
end

section
namespace Go.Proofs.YtoeeipkiadbnpaaGreatDoor.Lib10
open Go.RowKit Go.Proofs.YtoeeipkiadbnpaaGreatDoorW.PrintWords Go.Proofs.YtoeeipkiadbnpaaGreatDoorW.PrintLast Go.Proofs.YtoeeipkiadbnpaaGreatDoorW.PrintMore
set_option linter.unusedVariables false
def codeF (d : Int) : Int := (P.library_code.f d).getD 0
def lowF (b : Int) : Int := Go.bits .and .u8 b 15
set_option maxRecDepth 100000 in
theorem code_all : (List.range 256).all (fun b => decide (P.library_code.f (lowF (b : Nat)) = some (codeF (lowF (b : Nat))) ∧ P.library_code.f ((b : Int) / 16) = some (codeF ((b : Int) / 16)) ∧ 0 ≤ codeF (lowF (b : Nat)) ∧ codeF (lowF (b : Nat)) ≤ 255 ∧ 0 ≤ codeF ((b : Int) / 16) ∧ codeF ((b : Int) / 16) ≤ 255)) = true := by decide +kernel
theorem code_at {b : Int} (h0 : 0 ≤ b) (h1 : b ≤ 255) : P.library_code.f (lowF b) = some (codeF (lowF b)) ∧ P.library_code.f (b / 16) = some (codeF (b / 16)) ∧ 0 ≤ codeF (lowF b) ∧ codeF (lowF b) ≤ 255 ∧ 0 ≤ codeF (b / 16) ∧ codeF (b / 16) ≤ 255 := by
  have h := List.all_eq_true.1 code_all b.toNat (List.mem_range.2 (by omega))
  have e : ((b.toNat : Nat) : Int) = b := by omega
  rw [e] at h
  exact of_decide_eq_true h
def writtenI (bs : List Int) : List Int := bs.flatMap fun b => [codeF (lowF b), codeF (b / 16)]
def lineB (text : ByteArray) : List Int := bytesOf (text ++ ⟨#[10]⟩)
def writtenV (text : ByteArray) : List Int := writtenI (lineB text)
theorem writtenI_snoc (bs : List Int) (b : Int) : writtenI (bs ++ [b]) = writtenI bs ++ [codeF (lowF b), codeF (b / 16)] := by simp [writtenI]
theorem writtenI_length (bs : List Int) : (writtenI bs).length = 2 * bs.length := by
  induction bs with
  | nil => rfl
  | cons b bs ih => simp [writtenI] at ih ⊢; omega
theorem nl_size (text : ByteArray) : (text ++ (⟨#[10]⟩ : ByteArray)).size = text.size + 1 := by rw [ByteArray.size_append]; rfl
theorem lineB_length (text : ByteArray) : (lineB text).length = text.size + 1 := by
  unfold lineB
  rw [bytesOf_length, nl_size]
theorem bytesOf_range (s : ByteArray) (k : Nat) (b : Int) (h : (bytesOf s)[k]? = some b) : 0 ≤ b ∧ b ≤ 255 := by
  unfold bytesOf at h
  rw [List.getElem?_map] at h
  obtain ⟨u, _, rfl⟩ := Option.map_eq_some_iff.1 h
  have := u.toNat_lt
  constructor <;> omega
theorem two_reads (W : World) (x y : Int) : (Kd.int .u8).C (W.alloc (.cells #[.int .u8 x, .int .u8 y] 5)) (some ⟨W.heap.size, 0, none⟩) 2 [x, y] := by
  have hn := World.alloc_heap_new W (.cells #[.int .u8 x, .int .u8 y] 5)
  refine Kd.C_of_reads (enc := Value.int .u8) (d := (0 : Int)) (h1 := fun _ => rfl) ⟨rfl, by omega, fun _ => ⟨_, rfl, fun j hj => ?_⟩⟩
  rw [add_plain]
  first | rw [blk_cell hn j] | (rw [blk_cell hn (0 + j)])
  match j, hj with
  | 0, _ => rfl
  | 1, _ => rfl
section
set_option maxRecDepth 100000
set_option maxHeartbeats 2000000
theorem written_calls (text : ByteArray) (W : World) (hs : text.size ≤ 4294967296) : Calls Tryz.prog 43 #[.string text] W fun e w' => (∃ v, e = .returned v ∧ (Kd.int .u8).R 5 w' W.heap.size (fun j => W.heap.size ≤ j) v (writtenV text)) ∧ Below W.heap.size W w' := by
  have kb := fun W => print_bytes (P := Tryz.prog) 9 45 5 Tryz.underlying9 Tryz.underlying45 Tryz.underlying5 (text ++ ⟨#[10]⟩) W
  go_enter Tryz.func43, Tryz.ntmps43
  go_wp2_with fail
  have HL := Aside0.mk (lineB_length text)
  have HC0 := Aside0.mk (bytes_C W (text ++ ⟨#[10]⟩) (by rw [nl_size]; omega))
  have hbel := bytes_below (Below.refl W.heap.size W) (Nat.le_refl _) 5 (text ++ ⟨#[10]⟩)
  have HS0 := Aside0.mk hs
  obtain ⟨W0, hW0⟩ : ∃ W0, W0 = Lib.bytesWorld W 5 (text ++ ⟨#[10]⟩) := ⟨_, rfl⟩
  rw [← hW0] at HC0 hbel ⊢
  obtain ⟨n, hn⟩ : ∃ n, n = text.size + 1 := ⟨_, rfl⟩
  have hnb : (text ++ (⟨#[10]⟩ : ByteArray)).size = n := by rw [hn, nl_size]
  rw [hnb] at HC0
  have hnI : ((text.size : Int) + 1) = (n : Int) := by omega
  rw [← hn] at HL ⊢
  rw [hnI]
  have HN := Aside0.mk hn
  have HO := Aside0.mk (show W.heap.size < W0.heap.size by
    obtain ⟨ad, he, hc⟩ := Kd.at_int HC0.out 0 (Int.le_refl _) (by omega)
    cases he
    have h1 := World.block_lt_of_cell? _ _ hc
    unfold Addr.add at h1
    simpa using h1)
  have HB0 := Aside0.mk hbel
  clear kb hs hbel hW0 hn hnb hnI
  go_loopw [3, 10] (fun v3 v10 wr => ∃ k : Nat, k ≤ n ∧ v10 = .int .i64 k ∧ Aside0 ((Kd.int .u8).R 5 wr W.heap.size (fun j => W.heap.size ≤ j ∧ j ≠ W.heap.size) v3 (writtenI ((lineB text).take k))) ∧ Aside0 (wr.heap[W.heap.size]? = W0.heap[W.heap.size]?) ∧ Aside0 (Below W.heap.size W wr) ∧ Aside0 (W.heap.size < wr.heap.size)) (fun _ v10 _ => n - (intOf v10).toNat)
  case atStart => exact ⟨0, Nat.zero_le _, rfl, ⟨Kd.R_nil _ _ _ _ _⟩, ⟨rfl⟩, HB0, HO⟩
  case round =>
    obtain ⟨k, hk, rfl, hr, hblk, hbl, hlt⟩ := hrel
    by_cases hkn : k < n
    · have hn3 : n ≤ 4294967297 := by have := HS0.out; have := HN.out; omega
      have i0 : (0 : Int) ≤ (k : Int) := by omega
      have i1 : (k : Int) < (n : Int) := by omega
      obtain ⟨b, hb⟩ : ∃ b, (lineB text)[k]? = some b := ⟨_, List.getElem?_eq_getElem (by have := HL.out; omega)⟩
      have HBr := Aside0.mk (bytesOf_range _ k b hb)
      have HCo := Aside0.mk (code_at HBr.out.1 HBr.out.2)
      obtain ⟨ad, he, hc⟩ := Kd.at_int HC0.out k i0 i1
      cases he
      have hq : wr.cell? ⟨W.heap.size, k, none⟩ = some (.int .u8 b) := by
        rw [World.cell?_of_block hblk.out]
        have h1 : rd (bytesOf (text ++ ⟨#[10]⟩)) (k : Int) = b := by
          unfold rd
          rw [Int.toNat_natCast, List.getD_eq_getElem?_getD]
          have h2 : (bytesOf (text ++ ⟨#[10]⟩))[k]? = some b := hb
          rw [h2]; rfl
        rw [h1] at hc
        rw [← hc, add_plain]
        simp
      have HBk := Aside0.mk hb
      clear hc hb
      obtain ⟨A3, c3, hv3⟩ := Kd.R_slice hr.out
      subst hv3
      replace i0 := eq_true i0
      replace i1 := eq_true i1
      have HW := Aside0.mk (fun nq x y => two_reads (wr.drewN nq) x y)
      have hlw := writtenI_length ((lineB text).take k)
      rw [List.length_take] at hlw
      have HLw := Aside0.mk hlw
      clear hlw
      have HBz := Aside0.mk (fun nq (o : Obj) => (show Below wr.heap.size wr ((wr.drewN nq).alloc o) from below_alloc (show Below wr.heap.size wr (wr.drewN nq) from ⟨rfl, rfl, rfl, Nat.le_refl _, fun _ _ => rfl⟩) o))
      obtain ⟨lo, hlo⟩ : ∃ lo, lo = lowF b := ⟨_, rfl⟩
      obtain ⟨hi, hhi⟩ : ∃ hi, hi = b / 16 := ⟨_, rfl⟩
      rw [← hlo, ← hhi] at HCo
      obtain ⟨cx, hcx⟩ : ∃ cx, cx = codeF lo := ⟨_, rfl⟩
      obtain ⟨cy, hcy⟩ : ∃ cy, cy = codeF hi := ⟨_, rfl⟩
      rw [← hcx, ← hcy] at HCo
      have HX := Aside0.mk (fun w => P.library_code.calls lo cx w HCo.out.1)
      have HY := Aside0.mk (fun w => P.library_code.calls hi cy w HCo.out.2.1)
      have hlo2 : Go.bits .and .u8 b 15 = lo := hlo.symm
      have hhi2 : b / 16 = hi := hhi.symm
      have HE := Aside0.mk (show [codeF (lowF b), codeF (b / 16)] = [cx, cy] by rw [hcx, hcy, hlo, hhi])
      clear hlo hhi hcx hcy
      go_wp2_with (first | (go_at_call 73; first | (with_reducible refine (HX.out _).mono ?_; rintro e w' ⟨rfl, ⟨n1, rfl⟩⟩) | (with_reducible refine (HY.out _).mono ?_; rintro e w' ⟨rfl, ⟨n2, rfl⟩⟩)) | (at_builtin; go_loud (refine Kd.R_append_rows (Kd.int .u8) (Rr := (Kd.int .u8).K W) (w0 := W) W.heap.size rfl (.tmp 14) (.tmp 21) 45 5 (.int .u8 0) 1 rfl Tryz.underlying45 info5 rfl Nat.one_pos (by decide) (.slice A3 (writtenI ((lineB text).take k)).length c3) (writtenI ((lineB text).take k)) [cx, cy] (some ⟨wr.heap.size, 0, none⟩) 2 2 (fun j => W.heap.size ≤ j ∧ j ≠ W.heap.size) (fun _ => False) rfl rfl (Kd.R_below hr.out (HBz.out (n1 + n2) _)) (HW.out (n1 + n2) cx cy) (fun _ _ h => h) (fun _ hk => hk.elim) (fun j hj => by have := (HBz.out (n1 + n2) (.cells #[.int .u8 cx, .int .u8 cy] 5)).size; have := hlt.out; omega) (hbl.out.trans ((HBz.out (n1 + n2) _).mono hbl.out.size)) (hbl.out.trans ((HBz.out (n1 + n2) _).mono hbl.out.size)).size (by have := HLw.out; have := HS0.out; have := HN.out; omega) ?_); intro v7 w7 hq7 hb7 hg7 hat7; obtain ⟨A7, c7, rfl⟩ := Kd.R_slice hq7; have HQ7 := Aside0.mk hq7; have HB7 := Aside0.mk hb7; have HG7 := Aside0.mk hg7; clear hq7 hb7 hg7 hat7))
      refine ⟨⟨k + 1, by omega, by first | rfl | simp, ⟨?_⟩, ⟨?_⟩, HB7, ⟨?_⟩⟩, by simp [intOf]; omega⟩
      · have h1 := HQ7.out
        rw [List.take_add_one, HBk.out, Option.toList_some, writtenI_snoc, HE.out]
        simpa using h1
      · have h1 := HG7.out.block W.heap.size (by have := (HBz.out (n1 + n2) (.cells #[.int .u8 cx, .int .u8 cy] 5)).size; have := hlt.out; omega) (fun e => (hr.out.1 _ e.symm).2 rfl)
        exact (h1.trans ((HBz.out (n1 + n2) _).block _ hlt.out)).trans hblk.out
      · have := HG7.out.size
        have := (HBz.out (n1 + n2) (.cells #[.int .u8 cx, .int .u8 cy] 5)).size
        have := hlt.out
        omega
    · have i1 : ¬ (k : Int) < (n : Int) := by omega
      have hkn2 : k = n := by omega
      subst hkn2
      go_wp2_with fail
      go_ret
      refine ⟨⟨_, rfl, ?_⟩, hbl.out⟩
      have h1 := hr.out
      rw [List.take_of_length_le (Nat.le_of_eq HL.out)] at h1
      exact Kd.R_mono h1 (fun _ hj => hj.1)
end
end Go.Proofs.YtoeeipkiadbnpaaGreatDoor.Lib10
end

section
namespace Go.Proofs.YtoeeipkiadbnpaaGreatDoor.Lib10
open Go.RowKit Go.Proofs.YtoeeipkiadbnpaaGreatDoorW.PrintWords Go.Proofs.YtoeeipkiadbnpaaGreatDoorW.PrintLast Go.Proofs.YtoeeipkiadbnpaaGreatDoorW.PrintMore
set_option linter.unusedVariables false
def booksV (lines : List ByteArray) : List Int := lines.flatMap writtenV
theorem booksV_snoc (l : List ByteArray) (x : ByteArray) : booksV (l ++ [x]) = booksV l ++ writtenV x := by simp [booksV]
theorem writtenV_length (x : ByteArray) : (writtenV x).length = 2 * (x.size + 1) := by rw [writtenV, writtenI_length, lineB_length]
theorem booksV_length : ∀ (l : List ByteArray), (∀ x ∈ l, x.size ≤ 60) → (booksV l).length ≤ 122 * l.length
  | [], _ => Nat.le_refl _
  | x :: l, h => by
    have h1 := booksV_length l (fun y hy => h y (List.mem_cons_of_mem _ hy))
    have h2 := h x List.mem_cons_self
    have h3 := writtenV_length x
    simp [booksV] at h1 ⊢
    omega
section
set_option maxRecDepth 100000
set_option maxHeartbeats 2000000
theorem books_calls {A : Option Addr} {n c : Nat} {lines : List ByteArray} {W : World} (hC : Kd.string.C W A n lines) (hn : lines.length = n) (hs : ∀ x ∈ lines, x.size ≤ 60) (hm : n ≤ 1000000) : Calls Tryz.prog 42 #[.slice A n c] W fun e w' => (∃ v, e = .returned v ∧ (Kd.int .u8).R 5 w' W.heap.size (fun j => W.heap.size ≤ j) v (booksV lines)) ∧ Below W.heap.size W w' := by
  have HC := Aside0.mk hC
  have HN := Aside0.mk hn
  have HS := Aside0.mk hs
  clear hC hn hs
  go_enter Tryz.func42, Tryz.ntmps42
  go_wp2_with fail
  go_loopw [3, 8] (fun v3 v8 wr => ∃ k : Nat, k ≤ n ∧ v8 = .int .i64 k ∧ Aside0 ((Kd.int .u8).R 5 wr W.heap.size (fun j => W.heap.size ≤ j) v3 (booksV (lines.take k))) ∧ Aside0 (Below W.heap.size W wr)) (fun _ v8 _ => n - (intOf v8).toNat)
  case atStart => exact ⟨0, Nat.zero_le _, rfl, ⟨Kd.R_nil _ _ _ _ _⟩, ⟨Below.refl _ _⟩⟩
  case round =>
    obtain ⟨k, hk, rfl, hr, hbl⟩ := hrel
    by_cases hkn : k < n
    · have i0 : (0 : Int) ≤ (k : Int) := by omega
      have i1 : (k : Int) < (n : Int) := by omega
      obtain ⟨x, hx⟩ : ∃ x, lines[k]? = some x := ⟨_, List.getElem?_eq_getElem (by have := HN.out; omega)⟩
      have HX := Aside0.mk hx
      have HXs := Aside0.mk (HS.out x (List.mem_of_getElem? hx))
      obtain ⟨ad, he, hc⟩ := Kd.at_string (Kd.C_below HC.out hbl.out) k i0 i1
      cases he
      have h1 : rdOf ByteArray.empty lines (k : Int) = x := by
        unfold rdOf
        rw [Int.toNat_natCast, List.getD_eq_getElem?_getD, hx]
        rfl
      rw [h1, Int.toNat_natCast] at hc
      have HLen := Aside0.mk (booksV_length (lines.take k) (fun y hy => HS.out y (List.mem_of_mem_take hy)))
      have HLx := Aside0.mk (writtenV_length x)
      have HWr := Aside0.mk (written_calls x wr (by have := HXs.out; omega))
      have HSum := Aside0.mk (show ((booksV (lines.take k)).length + (writtenV x).length) * 1 ≤ 140737488355328 by
        have a1 := HLen.out
        have a2 := HLx.out
        have a3 := HXs.out
        have a4 : (lines.take k).length ≤ k := by rw [List.length_take]; omega
        omega)
      clear hx h1
      obtain ⟨A3, c3, hv3⟩ := Kd.R_slice hr.out
      subst hv3
      replace i0 := eq_true i0
      replace i1 := eq_true i1
      go_wp2_with (first | (go_at_call 43; refine HWr.out.mono ?_; rintro e w6 ⟨⟨v6, rfl, hq6⟩, hb6⟩; obtain ⟨A6, c6, rfl, hc6, hC6⟩ := Kd.R_reads hq6; have HC6 := Aside0.mk hC6; have HB6 := Aside0.mk (hbl.out.trans (hb6.mono hbl.out.size)); have HR6 := Aside0.mk (Kd.R_below hr.out hb6); clear hq6 hb6 hc6 hC6) | (at_builtin; go_loud (refine Kd.R_append_rows (Kd.int .u8) (Rr := (Kd.int .u8).K W) (w0 := W) W.heap.size rfl (.tmp 12) (.tmp 14) 45 5 (.int .u8 0) 1 rfl Tryz.underlying45 info5 rfl Nat.one_pos (by decide) (.slice A3 (booksV (lines.take k)).length c3) (booksV (lines.take k)) (writtenV x) A6 (writtenV x).length c6 (fun j => W.heap.size ≤ j) (fun _ => False) rfl rfl HR6.out HC6.out (fun _ _ h => h) (fun _ hk => hk.elim) (fun j hj => Nat.le_trans HB6.out.size hj) HB6.out HB6.out.size HSum.out ?_); intro v7 w7 hq7 hb7 hg7 hat7; have HQ7 := Aside0.mk hq7; have HB7 := Aside0.mk hb7; clear hq7 hb7 hg7 hat7))
      refine ⟨⟨k + 1, by omega, by first | rfl | simp, ⟨?_⟩, HB7⟩, by simp [intOf]; omega⟩
      have h1 := HQ7.out
      rw [List.take_add_one, HX.out, Option.toList_some, booksV_snoc]
      exact h1
    · have i1 : ¬ (k : Int) < (n : Int) := by omega
      have hkn2 : k = n := by omega
      subst hkn2
      go_wp2_with fail
      go_ret
      refine ⟨⟨_, rfl, ?_⟩, hbl.out⟩
      have h1 := hr.out
      rw [List.take_of_length_le (Nat.le_of_eq HN.out)] at h1
      exact h1
end
end Go.Proofs.YtoeeipkiadbnpaaGreatDoor.Lib10
end

section
namespace Go.Proofs.YtoeeipkiadbnpaaGreatDoor.Lib10
open Go.RowKit Go.Proofs.YtoeeipkiadbnpaaGreatDoorW.PrintWords Go.Proofs.YtoeeipkiadbnpaaGreatDoorW.PrintLast Go.Proofs.YtoeeipkiadbnpaaGreatDoorW.PrintMore
set_option linter.unusedVariables false
theorem StRec.same {W W' : World} {g b1 b2 b3 : Nat} {m1 m2 m3 : List (Str × Value)} (h : StRec W g b1 b2 b3 m1 m2 m3) (h0 : W'.heap[g]? = W.heap[g]?) (h1 : W'.heap[b1]? = W.heap[b1]?) (h2 : W'.heap[b2]? = W.heap[b2]?) (h3 : W'.heap[b3]? = W.heap[b3]?) : StRec W' g b1 b2 b3 m1 m2 m3 :=
  ⟨h0.trans h.cells, h.p1.same h1, h.p2.same h2, h.p3.same h3⟩
theorem IsSt.same {S : Nat → Prop} {W W' : World} {g : Nat} {m1 m2 m3 : List (Str × Value)} (h : IsSt S W g m1 m2 m3) (hs : ∀ k, S k → k < W.heap.size → W'.heap[k]? = W.heap[k]?) : IsSt S W' g m1 m2 m3 := by
  obtain ⟨b1, b2, b3, s0, s1, s2, s3, n1, n2, n3, hr⟩ := h
  exact ⟨b1, b2, b3, s0, s1, s2, s3, n1, n2, n3, hr.same (hs g s0 (blk_lt hr.cells)) (hs b1 s1 hr.p1.lt) (hs b2 s2 hr.p2.lt) (hs b3 s3 hr.p3.lt)⟩
theorem IsSt.mono {S S' : Nat → Prop} {W : World} {g : Nat} {m1 m2 m3 : List (Str × Value)} (h : IsSt S W g m1 m2 m3) (hs : ∀ k, S k → S' k) : IsSt S' W g m1 m2 m3 := by
  obtain ⟨b1, b2, b3, s0, s1, s2, s3, r⟩ := h
  exact ⟨b1, b2, b3, hs _ s0, hs _ s1, hs _ s2, hs _ s3, r⟩
theorem R_same {α : Type} {d : Kd α} {e base : Nat} {ok : Nat → Prop} {w w1 : World} {v : Value} {xs : List α} (h : d.R e w base ok v xs) (hE : d.E = []) (hs : ∀ k, ok k → k < w.heap.size → w1.heap[k]? = w.heap[k]?) : d.R e w1 base ok v xs := by
  refine Kd.R_mono (Kd.R_step (Kd.R_bound h) (fun k hk hlt => ?_)) (fun _ hk => hk.1)
  exact hs k hk.1 hlt
/-- A library: its record, its journal and its state. -/
structure LibAt (L : Nat) (W : World) (lg sg rg : Nat) (vj : Value) (lines : List ByteArray) (m1 m3 : List (Str × Value)) (ch : List (Str × Int)) : Prop where
  cells : W.heap[lg]? = some (.cells #[ptr sg, ptr rg, vj] 77 (0, 0))
  jr : Kd.string.R 9 W L (fun j => L ≤ j ∧ j ≠ lg) vj lines
  st : IsSt (fun k => L ≤ k ∧ k ≠ lg) W sg m1 (ints ch) m3
theorem LibAt.same {L : Nat} {W W' : World} {lg sg rg : Nat} {vj : Value} {lines : List ByteArray} {m1 m3 : List (Str × Value)} {ch : List (Str × Int)} (h : LibAt L W lg sg rg vj lines m1 m3 ch) (hL : L ≤ lg) (hs : ∀ k, L ≤ k → k < W.heap.size → W'.heap[k]? = W.heap[k]?) : LibAt L W' lg sg rg vj lines m1 m3 ch :=
  ⟨(hs lg hL (blk_lt h.cells)).trans h.cells, R_same h.jr rfl (fun k hk hl => hs k hk.1 hl), h.st.same (fun k hk hl => hs k hk.1 hl)⟩
/-- What reading the books gives. -/
def ReadPost (lines : List ByteArray) (m1 m3 : List (Str × Value)) (ch : List (Str × Int)) (W : World) (e : Ending) (w' : World) : Prop :=
  ∃ vj g, e = .returned (.tuple #[vj, ptr g]) ∧ Kd.string.R 9 w' W.heap.size (fun j => W.heap.size ≤ j) vj lines ∧ IsSt (fun k => W.heap.size ≤ k) w' g m1 (ints ch) m3 ∧ Below W.heap.size W w'
section
set_option maxRecDepth 100000
set_option maxHeartbeats 2000000
theorem unmade_calls {W : World} {lg sg rg : Nat} {vj : Value} (h : W.heap[lg]? = some (.cells #[ptr sg, ptr rg, vj] 77 (0, 0))) : Calls Tryz.prog 35 #[ptr lg] W fun e w' => e = .returned (.bool false) ∧ W = w' := by
  have q0 : W.cell? ⟨lg, 0, none⟩ = some (ptr sg) := (blk_cell h 0).trans rfl
  clear h
  go_enter Tryz.func35, Tryz.ntmps35
  go_wp2
  go_ret
  exact ⟨rfl, rfl⟩
theorem read_nil (c : Nat) (W : World) : Calls Tryz.prog 46 #[.slice none 0 c] W fun e w' => ReadPost [] [] [] [] W e w' := by
  have HB := Aside0.mk (begin_calls W)
  go_enter Tryz.func46, Tryz.ntmps46
  go_wp2_with (go_at_call 75; refine HB.out.mono ?_; rintro e w1 ⟨⟨g, rfl, hst⟩, hb⟩; have HS := Aside0.mk hst; have HB1 := Aside0.mk hb; clear hst hb)
  refine wp_loop_rounds 1 ?_
  rw [rounds_succ]
  go_wp2
  go_ret2
  exact ⟨_, g, rfl, Kd.R_nil _ _ _ _ _, HS.out, HB1.out⟩
/-- The library's record has been filled. -/
structure Filled (w2 w3 : World) (lg : Nat) (v0 v1 v2 : Value) : Prop where
  cells : w3.heap[lg]? = some (.cells #[v0, v1, v2] 77 (0, 0))
  oth : ∀ k, k ≠ lg → w3.heap[k]? = w2.heap[k]?
  sz : w3.heap.size = w2.heap.size
  bel : Below lg w2 w3
theorem filled {w2 : World} {lg : Nat} {a v1 b : Value} (v0 v2 : Value) (hc : w2.heap[lg]? = some (.cells #[a, v1, b] 77 (0, 0))) : Filled w2 ((w2.setCell ⟨lg, 2, none⟩ v2).setCell ⟨lg, 0, none⟩ v0) lg v0 v1 v2 where
  cells := blk_put (cs := #[a, v1, v2]) (blk_put (cs := #[a, v1, b]) hc 2 v2 rfl) 0 v0 rfl
  oth := fun k hk => (Below.heap_setCell _ ⟨lg, 0, none⟩ _ k hk).trans (Below.heap_setCell _ ⟨lg, 2, none⟩ _ k hk)
  sz := by simp [World.setCell]
  bel := ((Below.refl lg w2).setCell (p := ⟨lg, 2, none⟩) (Nat.le_refl _) _).setCell (p := ⟨lg, 0, none⟩) (Nat.le_refl _) _
theorem open_ok {W : World} {rg : Nat} {A : Option Addr} {m c : Nat} {x : ReelV} {lines : List ByteArray} {m1 m3 : List (Str × Value)} {ch : List (Str × Int)} {n : Nat} (h : Rec W rg (.slice A m c) x) (hs : x.size ≠ 0) (ho : x.off = false) (hmc : m ≤ c) (bs : List Int)
    (hread : ∀ W', Kept W W' (fun _ => False) → Calls Tryz.prog 46 #[.slice A m c] W' (ReadPost lines m1 m3 ch W')) (hn : (booksV lines).length = n) (hnm : n ≤ m) (hl : ∀ l ∈ lines, l.size ≤ 60) (hln : lines.length ≤ 1000000) :
    Calls Tryz.prog 18 #[ptr rg] W fun e w' => e = .returned (.tuple #[ptr W.heap.size, .int .i64 0]) ∧ (∃ sg vj, LibAt W.heap.size w' W.heap.size sg rg vj lines m1 m3 ch) ∧ Rec w' rg (.slice A n c) { x with b := bs } ∧ Kept W w' (fun k => k = rg) ∧ Below rg W w' := by
  subst hn
  have HR := Aside0.mk (ready_on h hs ho)
  have H := Aside0.mk h
  have HD := Aside0.mk hread
  have q0 := h.c0
  have HK := Aside0.mk (And.intro hl hln)
  have HNm := Aside0.mk (And.intro hnm hmc)
  have HS := Aside0.mk (And.intro hs ho)
  clear h hs ho hread hl hln hnm hmc
  go_enter Tryz.func18, Tryz.ntmps18
  have q1 := (cell_alloc (o := .cells #[.pointer none, ptr rg, .slice none 0 0] 77) (blk_lt H.out) 0).trans q0
  have HD1 := Aside0.mk (HD.out (W.alloc (.cells #[.pointer none, ptr rg, .slice none 0 0] 77)) ((Kept.refl _ _).alloc _))
  have HA := Aside0.mk (World.alloc_heap_new W (.cells #[.pointer none, ptr rg, .slice none 0 0] 77))
  clear q0
  go_wp2_with (first | (go_at_call 45; refine HR.out.mono ?_; rintro e w' ⟨rfl, rfl⟩) | (go_at_call 46; refine HD1.out.mono ?_; rintro e w2 ⟨vj, g, rfl, hj, hst, hb⟩; obtain ⟨A4, c4, rfl⟩ := Kd.R_slice hj; have hc2 := (hb.block W.heap.size (by simp)).trans HA.out; have k0 := (blk_cell hc2 0).trans rfl; have k2 := (blk_cell hc2 2).trans rfl; have z0 := blk_frozen hc2 0; have z2 := blk_frozen hc2 2; have HC2 := Aside0.mk hc2; have HJ := Aside0.mk hj; have HSt := Aside0.mk hst; have HB2 := Aside0.mk hb; have HF := Aside0.mk (filled (ptr g) (.slice A4 lines.length c4) hc2); have HS3 := Aside0.mk (And.intro (hst.same (fun k hk _ => HF.out.oth k (by simp at hk; omega))) (R_same hj rfl (fun k hk _ => HF.out.oth k (by simp at hk; omega)))); have HRc := Aside0.mk (show Rec ((w2.setCell ⟨W.heap.size, 2, none⟩ (.slice A4 lines.length c4)).setCell ⟨W.heap.size, 0, none⟩ (ptr g)) rg (.slice A m c) x from (HF.out.oth rg (Nat.ne_of_lt (blk_lt H.out))).trans ((hb.block rg (by have := blk_lt H.out; simp; omega)).trans ((Below.heap_alloc _ _ _ (blk_lt H.out)).trans H.out))); clear hj hst hb hc2) | (go_at_call 42; refine (books_calls (Kd.R_reads' HS3.out.2).2.2 rfl HK.out.1 HK.out.2).mono ?_; rintro e w4 ⟨⟨v5, rfl, hq5⟩, hb⟩; obtain ⟨A5, c5, rfl⟩ := Kd.R_slice hq5; have HB4 := Aside0.mk hb; have HRc4 := Aside0.mk (show Rec w4 rg (.slice A m c) x from (hb.block rg (blk_lt HRc.out)).trans HRc.out); clear hb hq5) | (go_at_call 33; refine (cut_ok (booksV lines).length HRc4.out HS.out.1 HS.out.2 HNm.out.1 HNm.out.2 bs).mono ?_; rintro e w5 ⟨rfl, hrc, ht⟩; have HRc5 := Aside0.mk hrc; have HT5 := Aside0.mk ht; clear hrc ht))
  go_ret2
  have hrl := blk_lt H.out
  have h3 := HF.out
  have h2 := HB2.out
  have h4 := HB4.out
  have h5 := HT5.out
  have hsz2 : W.heap.size + 1 ≤ w2.heap.size := by have := h2.size; simpa using this
  have hsz3 := h3.sz
  have hsz4 := h4.size
  refine ⟨rfl, ⟨g, .slice A4 lines.length c4, ?_, ?_, ?_⟩, HRc5.out, ?_, ?_⟩
  · exact (h5.oth _ (Nat.ne_of_gt hrl)).trans ((h4.block _ (by omega)).trans h3.cells)
  · exact Kd.R_lower (R_same (Kd.R_mono (R_same HS3.out.2 rfl (fun k _ hl => h4.block k hl)) (ok' := fun j => W.heap.size ≤ j ∧ j ≠ W.heap.size) (fun k hk => by simp at hk; omega)) rfl (fun k hk _ => h5.oth k (by omega))) (by simp)
  · refine (IsSt.same ((HS3.out.1.same (fun k _ hl => h4.block k hl)).mono (S' := fun k => W.heap.size ≤ k ∧ k ≠ W.heap.size) (fun k hk => by simp at hk; omega)) (fun k hk _ => h5.oth k (by omega)))
  · refine ⟨by have := h5.sz; omega, fun i hi hn => ?_⟩
    rw [h5.oth i hn, h4.block i (by omega), h3.oth i (by omega), h2.block i (by simp; omega), Below.heap_alloc _ _ _ hi]
  · exact ((((below_alloc (Below.refl W.heap.size W) _).mono (Nat.le_of_lt hrl)).trans (h2.mono (by simp; omega))).trans (h3.bel.mono (Nat.le_of_lt hrl))).trans ((h4.mono (by omega)).trans h5.bel)
end
end Go.Proofs.YtoeeipkiadbnpaaGreatDoor.Lib10
end

section
namespace Go.Proofs.YtoeeipkiadbnpaaGreatDoor.Lib10
open Go.RowKit Go.Proofs.YtoeeipkiadbnpaaGreatDoorW.PrintWords Go.Proofs.YtoeeipkiadbnpaaGreatDoorW.PrintLast Go.Proofs.YtoeeipkiadbnpaaGreatDoorW.PrintMore
set_option linter.unusedVariables false
/-- What the library's methods read: the record, the reel's record, the journal. -/
structure LibRead (W : World) (lg sg rg : Nat) (A4 : Option Addr) (c4 : Nat) (lines : List ByteArray) (A : Option Addr) (m c : Nat) (x : ReelV) : Prop where
  cells : W.heap[lg]? = some (.cells #[ptr sg, ptr rg, .slice A4 lines.length c4] 77 (0, 0))
  rc : Rec W rg (.slice A m c) x
  jc : Kd.string.C W A4 lines.length lines
theorem LibRead.below {W W' : World} {lg sg rg : Nat} {A4 : Option Addr} {c4 : Nat} {lines : List ByteArray} {A : Option Addr} {m c : Nat} {x : ReelV} (h : LibRead W lg sg rg A4 c4 lines A m c x) (hb : Below W.heap.size W W') : LibRead W' lg sg rg A4 c4 lines A m c x :=
  ⟨(hb.block lg (blk_lt h.cells)).trans h.cells, (hb.block rg (blk_lt h.rc)).trans h.rc, Kd.C_below h.jc hb⟩
theorem keepL {W w' : World} {lg sg rg : Nat} {A4 : Option Addr} {c4 : Nat} {lines : List ByteArray} {A : Option Addr} {m c : Nat} {x : ReelV} (h : LibRead W lg sg rg A4 c4 lines A m c x) (hb : Aside0 (Below W.heap.size W w')) :
    w'.cell? ⟨lg, 0, none⟩ = some (ptr sg) ∧ w'.cell? ⟨lg, 1, none⟩ = some (ptr rg) ∧ w'.cell? ⟨lg, 2, none⟩ = some (.slice A4 lines.length c4) ∧ w'.cell? ⟨rg, 0, none⟩ = some (.slice A m c) ∧ w'.cell? ⟨rg, 1, none⟩ = some (.int .i64 x.size) ∧ Aside0 (Below W.heap.size W w') := by
  have h2 := h.below hb.out
  exact ⟨(blk_cell h2.cells 0).trans rfl, (blk_cell h2.cells 1).trans rfl, (blk_cell h2.cells 2).trans rfl, h2.rc.c0, h2.rc.c1, hb⟩
section
set_option maxRecDepth 100000
set_option maxHeartbeats 2000000
theorem behind_on {W : World} {lg sg rg : Nat} {A4 : Option Addr} {c4 : Nat} {lines : List ByteArray} {A : Option Addr} {m c : Nat} {x : ReelV} (h : LibRead W lg sg rg A4 c4 lines A m c x) (hs : x.size ≠ 0) (ho : x.off = false) (hl : ∀ l ∈ lines, l.size ≤ 60) (hln : lines.length ≤ 1000000) :
    Calls Tryz.prog 41 #[ptr lg] W fun e w' => e = .returned (.int .i64 (if m < (booksV lines).length then 5 else 0)) ∧ Below W.heap.size W w' := by
  have HR := Aside0.mk (ready_on h.rc hs ho)
  have H := Aside0.mk h
  have q1 : W.cell? ⟨lg, 1, none⟩ = some (ptr rg) := (blk_cell h.cells 1).trans rfl
  have q2 : W.cell? ⟨lg, 2, none⟩ = some (.slice A4 lines.length c4) := (blk_cell h.cells 2).trans rfl
  have q3 := h.rc.c0
  have HB := Aside0.mk (below_drew1 (Below.refl W.heap.size W))
  have HK := Aside0.mk (And.intro hl hln)
  have q0 : W.cell? ⟨lg, 0, none⟩ = some (ptr sg) := (blk_cell h.cells 0).trans rfl
  have q4 := h.rc.c1
  clear h hs ho hl hln
  obtain ⟨r, hr⟩ : ∃ r : Int, r = if m < (booksV lines).length then 5 else 0 := ⟨_, rfl⟩
  rw [← hr]
  have HE := Aside0.mk hr
  clear hr
  go_enter Tryz.func41, Tryz.ntmps41
  go_wp2_with (go_at_call 45; refine HR.out.mono ?_; rintro e w' ⟨rfl, rfl⟩)
  go_region_held3 (fun w' => w'.cell? ⟨lg, 0, none⟩ = some (ptr sg) ∧ w'.cell? ⟨lg, 1, none⟩ = some (ptr rg) ∧ w'.cell? ⟨lg, 2, none⟩ = some (.slice A4 lines.length c4) ∧ w'.cell? ⟨rg, 0, none⟩ = some (.slice A m c) ∧ w'.cell? ⟨rg, 1, none⟩ = some (.int .i64 x.size) ∧ Aside0 (Below W.heap.size W w')) ((first | exact keepL H.out (by assumption))) (first | (go_at_call 42; refine (books_calls (H.out.below (Aside0.out (by assumption))).jc rfl HK.out.1 HK.out.2).mono ?_; rintro e w2 ⟨⟨v5, rfl, hq5⟩, hb⟩; obtain ⟨A5, c5, rfl⟩ := Kd.R_slice hq5; have HB2 := Aside0.mk (Below.trans (Aside0.out (by assumption) : Below W.heap.size W _) (hb.mono (Below.size (Aside0.out (by assumption) : Below W.heap.size W _)))); clear hq5 hb))
  have HE2 := HE.out
  by_cases hlt : m < (booksV lines).length
  · rw [if_pos hlt] at HE2
    subst HE2
    clear HE
    have hd : decide (m < (booksV lines).length) = true := decide_eq_true hlt
    go_wp2
    go_ret
    exact ⟨rfl, HB2.out⟩
  · rw [if_neg hlt] at HE2
    subst HE2
    clear HE
    have hd : decide (m < (booksV lines).length) = false := decide_eq_false hlt
    go_wp2
    go_ret
    exact ⟨rfl, HB2.out⟩
end
end Go.Proofs.YtoeeipkiadbnpaaGreatDoor.Lib10
end

section
namespace Go.Proofs.YtoeeipkiadbnpaaGreatDoor.Lib10
open Go.RowKit Go.Proofs.YtoeeipkiadbnpaaGreatDoorW.PrintWords Go.Proofs.YtoeeipkiadbnpaaGreatDoorW.PrintLast Go.Proofs.YtoeeipkiadbnpaaGreatDoorW.PrintMore
set_option linter.unusedVariables false
variable {B : Nat}
/-- A library in memory; what it lies in is told by the blocks' types. -/
structure LibIs (B : Nat) (W : World) (lg sg rg : Nat) (vj : Value) (lines : List ByteArray) (m1 m3 : List (Str × Value)) (ch : List (Str × Int)) : Prop where
  cells : W.heap[lg]? = some (.cells #[ptr sg, ptr rg, vj] 77 (0, 0))
  low : B ≤ lg
  jr : Kd.string.R 9 W B (fun _ => True) vj lines
  st : IsSt (fun k => B ≤ k) W sg m1 (ints ch) m3
theorem LibAt.is {L : Nat} {W : World} {lg sg rg : Nat} {vj : Value} {lines : List ByteArray} {m1 m3 : List (Str × Value)} {ch : List (Str × Int)} (h : LibAt L W lg sg rg vj lines m1 m3 ch) (hL : B ≤ L) (hlg : L ≤ lg) : LibIs B W lg sg rg vj lines m1 m3 ch :=
  ⟨h.cells, Nat.le_trans hL hlg, Kd.R_mono (Kd.R_lower h.jr hL) (fun _ _ => trivial), h.st.mono (fun k hk => Nat.le_trans hL hk.1)⟩
/-- Blocks of a reel. -/
def ReelBlk (W : World) (k : Nat) : Prop := ∃ cells t, W.heap[k]? = some (.cells cells t (0, 0)) ∧ (t = 5 ∨ t = 70)
theorem LibIs.kept {W W' : World} {lg sg rg : Nat} {vj : Value} {lines : List ByteArray} {m1 m3 : List (Str × Value)} {ch : List (Str × Int)} (h : LibIs B W lg sg rg vj lines m1 m3 ch) {F : Nat → Prop} (hk : Kept W W' F) (hF : ∀ k, F k → ReelBlk W k) : LibIs B W' lg sg rg vj lines m1 m3 ch := by
  have hno : ∀ k cells t, W.heap[k]? = some (.cells cells t (0, 0)) → t ≠ 5 → t ≠ 70 → ¬ F k := fun k cells t hc h5 h70 hf => by
    obtain ⟨c2, t2, hc2, ht⟩ := hF k hf
    rw [hc] at hc2
    injection hc2 with hc2
    injection hc2 with _ e
    rcases ht with ht | ht
    · exact h5 (e.trans ht)
    · exact h70 (e.trans ht)
  have hmap : ∀ k m, MR W k m → ¬ F k := fun k m hm hf => by
    obtain ⟨c2, t2, hc2, ht⟩ := hF k hf
    obtain ⟨D, ⟨es, clock, hb, _⟩, _⟩ := hm
    rw [hb] at hc2
    injection hc2 with hc2
    cases hc2
  obtain ⟨b1, b2, b3, s0, s1, s2, s3, n1, n2, n3, hr⟩ := h.st
  refine ⟨(hk.2 lg (blk_lt h.cells) (hno lg _ _ h.cells (by decide) (by decide))).trans h.cells, h.low, ?_, b1, b2, b3, s0, s1, s2, s3, n1, n2, n3, hr.same (hk.2 sg (blk_lt hr.cells) (hno sg _ _ hr.cells (by decide) (by decide))) (hk.2 b1 hr.p1.lt (hmap _ _ hr.p1)) (hk.2 b2 hr.p2.lt (hmap _ _ hr.p2)) (hk.2 b3 hr.p3.lt (hmap _ _ hr.p3))⟩
  refine R_apart h.jr rfl (fun k cells hc => hk.2 k (blk_lt hc) (hno k _ _ hc (by decide) (by decide)))
theorem LibIs.below {W W' : World} {lg sg rg : Nat} {vj : Value} {lines : List ByteArray} {m1 m3 : List (Str × Value)} {ch : List (Str × Int)} (h : LibIs B W lg sg rg vj lines m1 m3 ch) (hb : Below W.heap.size W W') : LibIs B W' lg sg rg vj lines m1 m3 ch :=
  h.kept (Kept.of_below hb (fun _ => False)) (fun _ hk => hk.elim)
/-- A reel in memory. -/
structure ReelIs (B : Nat) (W : World) (rg : Nat) (A : Option Addr) (m c : Nat) (x : ReelV) : Prop where
  rc : Rec W rg (.slice A m c) x
  low : B ≤ rg
  row : (Kd.int .u8).R 5 W B (fun _ => True) (.slice A m c) x.b
  fine : Fine x
theorem ReelIs.below {W W' : World} {rg : Nat} {A : Option Addr} {m c : Nat} {x : ReelV} (h : ReelIs B W rg A m c x) (hb : Below W.heap.size W W') : ReelIs B W' rg A m c x :=
  ⟨(hb.block rg (blk_lt h.rc)).trans h.rc, h.low, Kd.R_below h.row hb, h.fine⟩
theorem ReelIs.len {W : World} {rg : Nat} {A : Option Addr} {m c : Nat} {x : ReelV} (h : ReelIs B W rg A m c x) : m = x.b.length ∧ m ≤ c := by
  have h1 := Kd.R_reads' h.row
  exact ⟨h1.1, h1.2.1⟩
theorem ReelIs.rep {W : World} {rg : Nat} {A : Option Addr} {m c : Nat} {x : ReelV} (h : ReelIs B W rg A m c x) : ReelRep (fun k => k = rg ∨ some k = (Value.slice A m c).ownBlock) B W rg x := by
  refine ⟨.inl rfl, _, h.rc, ?_⟩
  refine ⟨fun k hk => ⟨.inr hk.symm, fun e => ?_⟩, ?_⟩
  · obtain ⟨cells, hc⟩ := own_type h.row k hk.symm
    exact type_ne hc h.rc (show (5 : Nat) ≠ 70 by decide) e
  · obtain ⟨_, ho⟩ := h.row
    exact ho
theorem ReelIs.of_rep {F : Nat → Prop} {W : World} {rg : Nat} {x : ReelV} (h : ReelRep F B W rg x) (hlow : B ≤ rg) (hf : Fine x) : ∃ A c, ReelIs B W rg A x.b.length c x := by
  obtain ⟨_, v, hrec, hrow⟩ := h
  obtain ⟨A, c, rfl⟩ := Kd.R_slice hrow
  exact ⟨A, c, hrec, hlow, Kd.R_mono hrow (fun _ _ => trivial), hf⟩
theorem ReelIs.blk {W : World} {rg : Nat} {A : Option Addr} {m c : Nat} {x : ReelV} (h : ReelIs B W rg A m c x) : ∀ k, (k = rg ∨ some k = (Value.slice A m c).ownBlock) → ReelBlk W k := by
  rintro k (rfl | hk)
  · exact ⟨_, 70, h.rc, .inr rfl⟩
  · obtain ⟨cells, hc⟩ := own_type h.row k hk
    exact ⟨cells, 5, hc, .inl rfl⟩
theorem IsSt.kept {S : Nat → Prop} {W W' : World} {g : Nat} {m1 m2 m3 : List (Str × Value)} (h : IsSt S W g m1 m2 m3) {F : Nat → Prop} (hk : Kept W W' F) (hF : ∀ k, F k → ReelBlk W k) : IsSt S W' g m1 m2 m3 := by
  have hno : ∀ k cells t, W.heap[k]? = some (.cells cells t (0, 0)) → t ≠ 5 → t ≠ 70 → ¬ F k := fun k cells t hc h5 h70 hf => by
    obtain ⟨c2, t2, hc2, ht⟩ := hF k hf
    rw [hc] at hc2
    injection hc2 with hc2
    injection hc2 with _ e
    rcases ht with ht | ht
    · exact h5 (e.trans ht)
    · exact h70 (e.trans ht)
  have hmap : ∀ k m, MR W k m → ¬ F k := fun k m hm hf => by
    obtain ⟨c2, t2, hc2, ht⟩ := hF k hf
    obtain ⟨D, ⟨es, clock, hb, _⟩, _⟩ := hm
    rw [hb] at hc2
    injection hc2 with hc2
    cases hc2
  obtain ⟨b1, b2, b3, s0, s1, s2, s3, n1, n2, n3, hr⟩ := h
  exact ⟨b1, b2, b3, s0, s1, s2, s3, n1, n2, n3, hr.same (hk.2 g (blk_lt hr.cells) (hno g _ _ hr.cells (by decide) (by decide))) (hk.2 b1 hr.p1.lt (hmap _ _ hr.p1)) (hk.2 b2 hr.p2.lt (hmap _ _ hr.p2)) (hk.2 b3 hr.p3.lt (hmap _ _ hr.p3))⟩
theorem fine_append : ∀ (bs : List Int) (x : ReelV), Fine x → Fine (appendV x bs).2
  | [], x, h => h
  | b :: bs, x, h => by
    rw [appendV]
    split
    · exact ⟨h.size0, h.size1, h.len, h.fuse0, h.fuse1⟩
    · split
      · exact h
      · next hf hz =>
        have hlr := less_range h.fuse0 h.fuse1 hf
        have hl := h.len
        exact fine_append bs _ ⟨h.size0, h.size1, by simp; omega, hlr.1, hlr.2⟩
/-- A change under way: the library, the reel, the new state. -/
structure DoAt (B : Nat) (W : World) (lg sg rg g' : Nat) (A4 : Option Addr) (c4 : Nat) (lines : List ByteArray) (m1 m3 : List (Str × Value)) (ch : List (Str × Int)) (m1' m3' : List (Str × Value)) (ch' : List (Str × Int)) (A : Option Addr) (m c : Nat) (x : ReelV) (w : World) : Prop where
  lib : LibIs B w lg sg rg (.slice A4 lines.length c4) lines m1 m3 ch
  reel : ReelIs B w rg A m c x
  nst : IsSt (fun k => B ≤ k) w g' m1' (ints ch') m3'
  bel : Below B W w
section
variable {W w w' : World} {lg sg rg g' : Nat} {A4 : Option Addr} {c4 : Nat} {lines : List ByteArray} {m1 m3 m1' m3' : List (Str × Value)} {ch ch' : List (Str × Int)} {A : Option Addr} {m c : Nat} {x : ReelV}
theorem DoAt.below (h : DoAt B W lg sg rg g' A4 c4 lines m1 m3 ch m1' m3' ch' A m c x w) (hb : Below w.heap.size w w') : DoAt B W lg sg rg g' A4 c4 lines m1 m3 ch m1' m3' ch' A m c x w' :=
  ⟨h.lib.below hb, h.reel.below hb, h.nst.below hb, h.bel.trans (hb.mono (by have := blk_lt h.lib.cells; have := h.lib.low; omega))⟩
theorem DoAt.turn (h : DoAt B W lg sg rg g' A4 c4 lines m1 m3 ch m1' m3' ch' A m c x w) (ht : Turn w w' rg) (hrc : Rec w' rg (.slice A m c) x) : DoAt B W lg sg rg g' A4 c4 lines m1 m3 ch m1' m3' ch' A m c x w' :=
  ⟨h.lib.kept (ht.kept (F := fun k => k = rg) rfl) (fun k hk => h.reel.blk k (.inl hk)), ⟨hrc, h.reel.low, R_apart h.reel.row rfl (fun k cells hc => ht.oth k (type_ne hc h.reel.rc (show (5 : Nat) ≠ 70 by decide))), h.reel.fine⟩, h.nst.kept (ht.kept (F := fun k => k = rg) rfl) (fun k hk => h.reel.blk k (.inl hk)), h.bel.trans (ht.bel.mono h.reel.low)⟩
theorem DoAt.read (h : DoAt B W lg sg rg g' A4 c4 lines m1 m3 ch m1' m3' ch' A m c x w) : LibRead w lg sg rg A4 c4 lines A m c x := ⟨h.lib.cells, h.reel.rc, (Kd.R_reads' h.lib.jr).2.2⟩
theorem DoAt.keep (h : Aside0 (DoAt B W lg sg rg g' A4 c4 lines m1 m3 ch m1' m3' ch' A m c x w)) : w.cell? ⟨lg, 0, none⟩ = some (ptr sg) ∧ w.cell? ⟨lg, 1, none⟩ = some (ptr rg) ∧ w.cell? ⟨lg, 2, none⟩ = some (.slice A4 lines.length c4) ∧ w.cell? ⟨rg, 0, none⟩ = some (.slice A m c) ∧ w.cell? ⟨rg, 1, none⟩ = some (.int .i64 x.size) ∧ Aside0 (DoAt B W lg sg rg g' A4 c4 lines m1 m3 ch m1' m3' ch' A m c x w) :=
  ⟨(blk_cell h.out.lib.cells 0).trans rfl, (blk_cell h.out.lib.cells 1).trans rfl, (blk_cell h.out.lib.cells 2).trans rfl, h.out.reel.rc.c0, h.out.reel.rc.c1, h⟩
end
/-- Blocks of a library's record and journal. -/
def LibBlk (W : World) (k : Nat) : Prop := ∃ cells t, W.heap[k]? = some (.cells cells t (0, 0)) ∧ (t = 9 ∨ t = 77)
theorem libblk_not {W : World} {k : Nat} (h : LibBlk W k) {cells : Array Value} {t : Nat} (hc : W.heap[k]? = some (.cells cells t (0, 0))) (h9 : t ≠ 9) (h77 : t ≠ 77) : False := by
  obtain ⟨c2, t2, hc2, ht⟩ := h
  rw [hc] at hc2
  injection hc2 with hc2
  injection hc2 with _ e
  rcases ht with ht | ht
  · exact h9 (e.trans ht)
  · exact h77 (e.trans ht)
theorem IsSt.keptL {S : Nat → Prop} {W W' : World} {g : Nat} {m1 m2 m3 : List (Str × Value)} (h : IsSt S W g m1 m2 m3) {F : Nat → Prop} (hk : Kept W W' F) (hF : ∀ k, F k → LibBlk W k) : IsSt S W' g m1 m2 m3 := by
  have hmap : ∀ k m, MR W k m → ¬ F k := fun k m hm hf => by
    obtain ⟨c2, t2, hc2, ht⟩ := hF k hf
    obtain ⟨D, ⟨es, clock, hb, _⟩, _⟩ := hm
    rw [hb] at hc2
    injection hc2 with hc2
    cases hc2
  obtain ⟨b1, b2, b3, s0, s1, s2, s3, n1, n2, n3, hr⟩ := h
  exact ⟨b1, b2, b3, s0, s1, s2, s3, n1, n2, n3, hr.same (hk.2 g (blk_lt hr.cells) (fun hf => libblk_not (hF g hf) hr.cells (by decide) (by decide))) (hk.2 b1 hr.p1.lt (hmap _ _ hr.p1)) (hk.2 b2 hr.p2.lt (hmap _ _ hr.p2)) (hk.2 b3 hr.p3.lt (hmap _ _ hr.p3))⟩
theorem ReelIs.keptL {W W' : World} {rg : Nat} {A : Option Addr} {m c : Nat} {x : ReelV} (h : ReelIs B W rg A m c x) {F : Nat → Prop} (hk : Kept W W' F) (hF : ∀ k, F k → LibBlk W k) : ReelIs B W' rg A m c x :=
  ⟨(hk.2 rg (blk_lt h.rc) (fun hf => libblk_not (hF rg hf) h.rc (by decide) (by decide))).trans h.rc, h.low, R_apart h.row rfl (fun k cells hc => hk.2 k (blk_lt hc) (fun hf => libblk_not (hF k hf) hc (by decide) (by decide))), h.fine⟩
/-- The new state and the longer journal have been written into the library's record. -/
theorem journal_set {w7 w9 : World} {lg sg rg g' n : Nat} {A4 A9 : Option Addr} {c4 c9 : Nat} {lines : List ByteArray} {line : ByteArray} {m1 m3 m1' m3' : List (Str × Value)} {ch ch' : List (Str × Int)} {x : ReelV} {A' : Option Addr} {m' c' : Nat}
    (hL : LibIs B w7 lg sg rg (.slice A4 n c4) lines m1 m3 ch) (hN : IsSt (fun k => B ≤ k) w7 g' m1' (ints ch') m3') (hR : ReelIs B w7 rg A' m' c' x)
    (hq : Kd.string.R 9 w9 B (fun _ => True) (.slice A9 (lines ++ [line]).length c9) (lines ++ [line])) (hg : (w7.setCell ⟨lg, 0, none⟩ (ptr g')).grownBy w9 (Value.slice A4 n c4).ownBlock) :
    w9.heap[lg]? = some (.cells #[ptr g', ptr rg, .slice A4 n c4] 77 (0, 0)) ∧ LibIs B (w9.setCell ⟨lg, 2, none⟩ (.slice A9 (lines ++ [line]).length c9)) lg g' rg (.slice A9 (lines ++ [line]).length c9) (lines ++ [line]) m1' m3' ch' ∧ ReelIs B (w9.setCell ⟨lg, 2, none⟩ (.slice A9 (lines ++ [line]).length c9)) rg A' m' c' x := by
  have p8 := blk_put (cs := #[ptr sg, ptr rg, .slice A4 n c4]) hL.cells 0 (ptr g') rfl
  have own : ∀ k, some k = (Value.slice A4 n c4).ownBlock → ∃ cells, w7.heap[k]? = some (.cells cells 9 (0, 0)) := fun k hk => own_type hL.jr k hk
  have hne : some lg ≠ (Value.slice A4 n c4).ownBlock := fun e => by
    obtain ⟨cells, hc⟩ := own lg e
    exact type_ne hc hL.cells (show (9 : Nat) ≠ 77 by decide) rfl
  have p9 := (hg.block lg (blk_lt p8) hne).trans p8
  have hk : Kept w7 (w9.setCell ⟨lg, 2, none⟩ (.slice A9 (lines ++ [line]).length c9)) (fun k => k = lg ∨ some k = (Value.slice A4 n c4).ownBlock) :=
    (((Kept.refl w7 (fun k => k = lg ∨ some k = (Value.slice A4 n c4).ownBlock)).setCell (p := ⟨lg, 0, none⟩) (.inl (.inl rfl)) _).of_grown hg (fun k e => .inl (.inr e.symm))).setCell (p := ⟨lg, 2, none⟩) (.inl (.inl rfl)) _
  have hF : ∀ k, (k = lg ∨ some k = (Value.slice A4 n c4).ownBlock) → LibBlk w7 k := by
    rintro k (rfl | hk)
    · exact ⟨_, 77, hL.cells, .inr rfl⟩
    · obtain ⟨cells, hc⟩ := own k hk
      exact ⟨cells, 9, hc, .inl rfl⟩
  exact ⟨p9, ⟨blk_put (cs := #[ptr g', ptr rg, .slice A4 n c4]) p9 2 _ rfl, hL.low, R_apart hq rfl (fun k cells hc => Below.heap_setCell _ ⟨lg, 2, none⟩ _ k (type_ne hc p9 (show (9 : Nat) ≠ 77 by decide))), hN.keptL hk hF⟩, hR.keptL hk hF⟩
theorem append_is {w4 w5 : World} {rg : Nat} {A A6 : Option Addr} {m c c6 n6 : Nat} {x : ReelV} {bs : List Int} (hn6 : bs.length = n6) (hR : ReelIs B w4 rg A m c x) (hb : Below w4.heap.size w4 w5) (hq : (Kd.int .u8).R 5 w5 w4.heap.size (fun j => w4.heap.size ≤ j) (.slice A6 n6 c6) bs) (ho : x.off = false) (nq : Nat) :
    Calls Tryz.prog 31 #[ptr rg, .slice A6 n6 c6] (w5.drewN nq) fun e w' => e = .returned (.int .i64 (appendV x bs).1) ∧ (∃ A' m' c', ReelIs B w' rg A' m' c' (appendV x bs).2) ∧ Kept (w5.drewN nq) w' (fun k => k = rg ∨ some k = (Value.slice A m c).ownBlock) ∧ Below B (w5.drewN nq) w' := by
  subst hn6
  have hR5 : ReelIs B (w5.drewN nq) rg A m c x := hR.below (hb.trans ⟨rfl, rfl, rfl, Nat.le_refl _, fun _ _ => rfl⟩)
  have hrl := blk_lt hR.rc
  have hlow := hR.low
  have hrd := Kd.R_reads' hq
  have hs5 := hb.size
  have hFlt : ∀ k, (k = rg ∨ some k = (Value.slice A m c).ownBlock) → k < w4.heap.size := by
    rintro k (rfl | hk)
    · exact hrl
    · obtain ⟨cells, hc⟩ := own_type hR.row k hk
      exact blk_lt hc
  refine (append_calls (bs := bs) hR5.rep hR.fine ho ?_ ?_ hrd.2.1 ?_).mono ?_
  · rintro k (rfl | hk)
    · exact hlow
    · exact Kd.R_base hR.row k hk.symm
  · show B ≤ w5.heap.size
    omega
  · intro W' hk
    have h1 : (Kd.int .u8).R 5 W' w4.heap.size (fun j => w4.heap.size ≤ j) (.slice A6 bs.length c6) bs := R_same hq rfl (fun k hk2 hl => hk.2 k hl (fun hf => by have := hFlt k hf; omega))
    exact (Kd.R_reads' h1).2.2
  · rintro e w' ⟨rfl, hrep, hk, hb9⟩
    obtain ⟨A', c', hr'⟩ := ReelIs.of_rep hrep hlow (fine_append _ _ hR.fine)
    exact ⟨rfl, ⟨A', _, c', hr'⟩, hk, hb9⟩
section
set_option maxRecDepth 100000
set_option maxHeartbeats 2000000
theorem libDo_ok {W : World} {lg sg rg : Nat} {A4 : Option Addr} {c4 : Nat} {lines : List ByteArray} {m1 m3 m1' m3' : List (Str × Value)} {ch ch' : List (Str × Int)} {A : Option Addr} {m c : Nat} {x : ReelV} {line word : ByteArray}
    (hL : LibIs B W lg sg rg (.slice A4 lines.length c4) lines m1 m3 ch) (hR : ReelIs B W rg A m c x) (ho : x.off = false) (hbk : (booksV lines).length = m) (hl : ∀ l ∈ lines, l.size ≤ 60) (hln : lines.length ≤ 1000000) (hline : line.size ≤ 60)
    (hdo : Calls Tryz.prog 40 #[ptr sg, .string line] W fun e w' => (∃ g', e = .returned (.tuple #[ptr g', .string word, .int .i64 0]) ∧ IsSt (fun k => W.heap.size ≤ k) w' g' m1' (ints ch') m3') ∧ Below W.heap.size W w')
    (hfit : (m : Int) + ((writtenV line).length : Int) ≤ x.size) (happ : (appendV x (writtenV line)).1 = 0) :
    Calls Tryz.prog 15 #[ptr lg, .string line] W fun e w' => e = .returned (.tuple #[.string word, .int .i64 0]) ∧ (∃ sg' vj', LibIs B w' lg sg' rg vj' (lines ++ [line]) m1' m3' ch') ∧ (∃ A' m' c', ReelIs B w' rg A' m' c' (appendV x (writtenV line)).2) ∧ Below B W w' := by
  have HL := Aside0.mk hL
  have HR := Aside0.mk hR
  have HU := Aside0.mk (unmade_calls hL.cells)
  have HD := Aside0.mk hdo
  have HK := Aside0.mk (And.intro hl (And.intro hln (And.intro hline ho)))
  have HBk := Aside0.mk hbk
  have HF := Aside0.mk (And.intro hfit happ)
  have q0 : W.cell? ⟨lg, 0, none⟩ = some (ptr sg) := (blk_cell hL.cells 0).trans rfl
  have HSz := Aside0.mk (show x.size ≠ 0 by have := hR.fine.size0; omega)
  have HW9 := Aside0.mk (show B ≤ W.heap.size by have := blk_lt hL.cells; have := hL.low; omega)
  clear hL hR hdo hl hln hline ho hbk hfit happ
  go_enter Tryz.func15, Tryz.ntmps15
  go_wp2_with (first | (go_at_call 35; refine HU.out.mono ?_; rintro e w' ⟨rfl, rfl⟩) | (go_at_call 40; refine HD.out.mono ?_; rintro e w1 ⟨⟨g', rfl, hi⟩, hb⟩; have HD1 := Aside0.mk (show DoAt B W lg sg rg g' A4 c4 lines m1 m3 ch m1' m3' ch' A m c x w1 from ⟨HL.out.below hb, HR.out.below hb, hi.mono (fun k hk => Nat.le_trans HW9.out hk), hb.mono HW9.out⟩); clear hi hb) | (go_at_call 41; refine (behind_on HD1.out.read HSz.out HK.out.2.2.2 HK.out.1 HK.out.2.1).mono ?_; rintro e w2 ⟨he, hb⟩; rw [HBk.out, if_neg (Nat.lt_irrefl m)] at he; subst he; have HD2 := Aside0.mk (HD1.out.below hb); clear hb))
  have HD0 := Aside0.mk (HD2.out.below (w' := w2.drew) ⟨rfl, rfl, rfl, Nat.le_refl _, fun _ _ => rfl⟩)
  have hk2 := DoAt.keep HD2
  obtain ⟨k0, k1, k2, k3, k4, _⟩ := hk2
  clear q0
  go_region_held3 (fun w' => w'.cell? ⟨lg, 0, none⟩ = some (ptr sg) ∧ w'.cell? ⟨lg, 1, none⟩ = some (ptr rg) ∧ w'.cell? ⟨lg, 2, none⟩ = some (.slice A4 lines.length c4) ∧ w'.cell? ⟨rg, 0, none⟩ = some (.slice A m c) ∧ w'.cell? ⟨rg, 1, none⟩ = some (.int .i64 x.size) ∧ Aside0 (DoAt B W lg sg rg g' A4 c4 lines m1 m3 ch m1' m3' ch' A m c x w')) ((exact DoAt.keep (by assumption))) (first | (go_at_call 42; refine (books_calls (DoAt.read (Aside0.out (by assumption))).jc rfl HK.out.1 HK.out.2.1).mono ?_; rintro e w3 ⟨⟨v5, rfl, hq5⟩, hb⟩; obtain ⟨A5, c5, rfl⟩ := Kd.R_slice hq5; have HD3 := Aside0.mk (DoAt.below (Aside0.out (by assumption)) hb); rw [HBk.out]; clear hq5 hb) | (go_at_call 33; refine (cut_ok m (DoAt.reel (Aside0.out (by assumption))).rc HSz.out HK.out.2.2.2 (Nat.le_refl m) (HR.out.len).2 x.b).mono ?_; rintro e w4 ⟨rfl, hrc, ht⟩; have HD4 := Aside0.mk (DoAt.turn (Aside0.out (by assumption)) ht hrc); clear hrc ht))
  clear k0 k1 k2 k3 k4
  have HWr := Aside0.mk (written_calls line w4 (by have := HK.out.2.2.1; omega))
  have hfit := HF.out.1
  obtain ⟨bl, hbl⟩ : ∃ bl, bl = (writtenV line).length := ⟨_, rfl⟩
  rw [← hbl] at hfit
  have hbl2 : (writtenV line).length = bl := hbl.symm
  clear hbl
  have hx5 := HR.out.fine.size1
  go_wp2_with (go_at_call 43; refine HWr.out.mono ?_; rintro e w5 ⟨⟨v6, rfl, hq6⟩, hb⟩; obtain ⟨A6, c6, rfl⟩ := Kd.R_slice hq6; have HQ6 := Aside0.mk hq6; have HB5 := Aside0.mk hb; have HD5 := Aside0.mk (HD4.out.below hb); obtain ⟨k0, k1, k2, k3, k4, _⟩ := DoAt.keep HD5; clear hb hq6)
  have HBl := Aside0.mk hbl2
  have hml : m ≤ 100000 := by have := HR.out.len.1; have := HR.out.fine.len; omega
  have hbl3 : bl ≤ 1000 := by have := writtenV_length line; have := HK.out.2.2.1; omega
  go_quiet (fail)
  have HAp := Aside0.mk (append_is (n6 := bl) HBl.out HD4.out.reel HB5.out (by have h := HQ6.out; rw [HBl.out] at h; exact h) HK.out.2.2.2 nq)
  have HD6 := Aside0.mk (HD5.out.below (w' := w5.drewN nq) ⟨rfl, rfl, rfl, Nat.le_refl _, fun _ _ => rfl⟩)
  clear k0 k2 k3 k4 hbl2
  go_wp2_with (first | (go_at_call 31; refine HAp.out.mono ?_; rintro e w7 ⟨he, hr7, hk7, hb7⟩; rw [HF.out.2] at he; subst he; have HR7 := Aside0.mk hr7; have HL7 := Aside0.mk (HD6.out.lib.kept hk7 HD6.out.reel.blk); have HN7 := Aside0.mk (HD6.out.nst.kept hk7 HD6.out.reel.blk); have HB7 := Aside0.mk (HD6.out.bel.trans hb7); have z0 := blk_frozen HL7.out.cells 0; have z2 := blk_frozen HL7.out.cells 2; have k0 := (blk_cell HL7.out.cells 0).trans rfl; have k2 := (blk_cell HL7.out.cells 2).trans rfl; have HSZ := Aside0.mk (show (w7.setCell ⟨lg, 0, none⟩ (ptr g')).heap.size = w7.heap.size by simp [World.setCell]); go_loud (have HR8 := Aside0.mk (show Kd.string.R 9 (w7.setCell ⟨lg, 0, none⟩ (ptr g')) B (fun _ => True) (.slice A4 lines.length c4) lines from R_apart HL7.out.jr rfl (fun k cells hc => Below.heap_setCell _ ⟨lg, 0, none⟩ _ k (type_ne hc HL7.out.cells (show (9 : Nat) ≠ 77 by decide))))); go_loud (have HB8 := Aside0.mk (show Below B W (w7.setCell ⟨lg, 0, none⟩ (ptr g')) from HB7.out.setCell (p := ⟨lg, 0, none⟩) HL.out.low _)); go_loud (have HZ8 := Aside0.mk (show B ≤ (w7.setCell ⟨lg, 0, none⟩ (ptr g')).heap.size from Nat.le_trans HW9.out HB8.out.size)); clear hr7 hk7 hb7 k1) | (at_builtin; go_loud (refine Kd.R_append Kd.string (w0 := W) B rfl (.tmp 85) (.tmp 87) 22 9 (.string ByteArray.empty) 16 rfl Tryz.underlying22 info9 rfl (by decide) (by omega) (.slice A4 lines.length c4) lines line [.string line] (fun _ => True) (fun _ => False) rfl (by rw [HSZ.out]; rfl) rfl (fun _ hk => hk.elim) (fun _ _ => trivial) HR8.out HB8.out HZ8.out (by have := HK.out.2.1; omega) ?_); intro v9 w9 hq9 hb9 hg9 hat9; go_loud (obtain ⟨A9, c9, rfl⟩ := Kd.R_slice hq9); go_loud (obtain ⟨A', m', c', hr'⟩ := HR7.out); go_loud (have HJ0 := journal_set HL7.out HN7.out hr' hq9 hg9); obtain ⟨A', m', c', hr'⟩ := HR7.out; have HJ := Aside0.mk (journal_set HL7.out HN7.out hr' hq9 hg9); have HB9 := Aside0.mk hb9; have z9 := blk_frozen HJ.out.1 2; have k9 := (blk_cell HJ.out.1 2).trans rfl; clear hq9 hb9 hg9 hat9 hr'))
  go_ret2
  have hJ := HJ.out
  rw [show (lines ++ [line]).length = lines.length + 1 by simp] at hJ
  exact ⟨rfl, ⟨_, _, hJ.2.1⟩, ⟨_, _, _, hJ.2.2⟩, HB9.out.setCell (p := ⟨lg, 2, none⟩) HL.out.low _⟩
end
end Go.Proofs.YtoeeipkiadbnpaaGreatDoor.Lib10
end

section
namespace Go.Proofs.YtoeeipkiadbnpaaGreatDoor.Lib10
open Go.RowKit Go.Proofs.YtoeeipkiadbnpaaGreatDoorW.PrintWords Go.Proofs.YtoeeipkiadbnpaaGreatDoorW.PrintLast Go.Proofs.YtoeeipkiadbnpaaGreatDoorW.PrintMore
set_option linter.unusedVariables false
theorem MapRep.look0 {P : Program} {K : TypeId} {W : World} {b : Nat} {m : List (Str × Value)} {t e : TypeId} (h : MapRep P K W b m) (Kd : Maps.Keyed P K) (ht : P.underlying t = some (.map K e)) {z : Value} (hz : (zeroValue e).run P W = .ok z W) {key : Value} {k : Str} (hkey : keyOf P K key = some (.string k)) :
    (Instr.lookup t (.map (some b)) key false).run P W = .ok ((get m k).getD z) W := by
  obtain ⟨D, hown, ha⟩ := h
  obtain ⟨v, ps, hrun, hv⟩ := hown.lookup Kd ht hz (zd := .held z) (zp := []) rfl hkey
  have hv' : v = (get m k).getD z := by
    have h1 : DataW.held v = D.atKey (.string k) (.held z) := by
      have := congrArg Prod.fst (Option.some.inj hv)
      exact this
    rw [ha.at_] at h1
    cases hg : get m k with
    | none => rw [hg] at h1; injection h1
    | some u => rw [hg] at h1; injection h1
  rw [hrun, hv']
def chairOf (ch : List (Str × Int)) (n : ByteArray) : Int := (get ch n.data.toList).getD 0
theorem look_chair {W : World} {b2 : Nat} {ch : List (Str × Int)} (h : MR W b2 (ints ch)) {n : ByteArray} (hn : n.size ≤ 100) (nq : Nat) :
    (Instr.lookup 125 (.map (some b2)) (.string n) false).run Tryz.prog (W.drewN nq) = .ok (.int .i64 (chairOf ch n)) (W.drewN nq) := by
  have h1 := MapRep.look0 (h.same (W' := W.drewN nq) rfl) law9 Tryz.underlying125 (z := .int .i64 0) (by first | exact Tryz.zero3 _ | simp [go_sem]) (keyOf9 hn)
  rw [h1, get_ints]
  unfold chairOf
  cases get ch n.data.toList <;> rfl
section
set_option maxRecDepth 100000
set_option maxHeartbeats 2000000
theorem seated1_calls {W : World} {Bs g b2 : Nat} {ch : List (Str × Int)} (q0 : W.cell? ⟨Bs, 0, none⟩ = some (ptr g)) (q1 : W.cell? ⟨g, 1, none⟩ = some (.map (some b2))) (hm : MR W b2 (ints ch)) {x y : ByteArray} (hx : x.size ≤ 100) (hy : y.size ≤ 100) :
    Calls Tryz.prog 130 #[.string x, .string y, .pointer (some ⟨Bs, 0, none⟩)] W fun e w' => e = .returned (.int .i64 (Lib.compareInt (chairOf ch x) (chairOf ch y))) ∧ ∃ q, w' = W.drewN q := by
  have hlx := fun nq => look_chair hm hx nq
  have hly := fun nq => look_chair hm hy nq
  obtain ⟨cx, hcx⟩ : ∃ cx, cx = chairOf ch x := ⟨_, rfl⟩
  obtain ⟨cy, hcy⟩ : ∃ cy, cy = chairOf ch y := ⟨_, rfl⟩
  rw [← hcx] at hlx ⊢
  rw [← hcy] at hly ⊢
  have HC := Aside0.mk (fun w => Tryz.cmp_Compare_int cx cy w)
  clear hm hx hy hcx hcy
  go_enter Tryz.func130, Tryz.ntmps130
  go_wp2_with fail
  go_quiet ((go_at_call 131; exact Calls.quiet_of ((HC.out _).mono (fun _ _ h => ⟨h.1, 0, h.2⟩))))
  go_wp2_with fail
  go_ret
  exact ⟨rfl, nq, rfl⟩
end
end Go.Proofs.YtoeeipkiadbnpaaGreatDoor.Lib10
end
