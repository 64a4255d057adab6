/- Texts that the proof of LibraryHeals needs, put together in build order by this session's program (wip/tools/claimtrim.py). -/
import Derived.Test.YtoeeipkiadbnpaaGreatDoorLibraryHealsM20
section
namespace Go.Proofs.YtoeeipkiadbnpaaGreatDoor.Lib10
open Go.RowKit Go.Proofs.YtoeeipkiadbnpaaGreatDoorW.PrintWords Go.Proofs.YtoeeipkiadbnpaaGreatDoorW.PrintLast Go.Proofs.YtoeeipkiadbnpaaGreatDoorW.PrintMore
set_option linter.unusedVariables false
variable {B : Nat}
theorem appendV_free : ∀ (bs : List Int) (x : ReelV), x.fuse = -1 → (x.b.length : Int) + (bs.length : Int) ≤ x.size → appendV x bs = (0, { x with b := x.b ++ bs })
  | [], x, _, _ => by rw [appendV, List.append_nil]
  | b :: bs, x, hf, hs => by
    rw [appendV, if_neg (by rw [hf]; decide), if_neg (by simp at hs; omega)]
    have hl : less x.fuse = -1 := by rw [hf]; rfl
    rw [hl, appendV_free bs _ rfl (by simp at hs ⊢; omega)]
    obtain ⟨xb, xs, xo, xf⟩ := x
    simp at hf
    subst hf
    simp
/-- The reel of a library that has done lines. -/
def mkReel (size : Int) (lines : List ByteArray) : ReelV := ⟨booksV lines, size, false, -1⟩
theorem libDo_run (size : Int) (lines : List ByteArray) (st : St) (line : ByteArray) :
    libDoV (mkReel size lines) lines st line = if (doS st line).1 ≠ 0 then ⟨ByteArray.empty, (doS st line).1, mkReel size lines, lines, st⟩ else if size < ((booksV lines).length : Int) + ((writtenV line).length : Int) then ⟨ByteArray.empty, 7, mkReel size lines, lines, st⟩ else ⟨headW line, 0, mkReel size (lines ++ [line]), lines ++ [line], (doS st line).2⟩ := by
  unfold libDoV
  by_cases h1 : (doS st line).1 ≠ 0
  · rw [if_pos h1, if_pos h1]
  · rw [if_neg h1, if_neg h1]
    by_cases h2 : size < ((booksV lines).length : Int) + ((writtenV line).length : Int)
    · rw [if_pos (by exact h2), if_pos h2]
    · rw [if_neg (by exact h2), if_neg h2]
      have ha := appendV_free (writtenV line) (mkReel size lines) rfl (by show ((booksV lines).length : Int) + _ ≤ size; omega)
      rw [ha, if_neg (by simp)]
      have e : ({ mkReel size lines with b := (mkReel size lines).b ++ writtenV line } : ReelV) = mkReel size (lines ++ [line]) := by
        unfold mkReel
        rw [booksV_snoc]
      show (⟨headW line, 0, _, _, _⟩ : DoRes) = _
      rw [← e]
theorem libDo_reach {size : Int} {lines : List ByteArray} {st : St} (h : Reach lines st) (line : ByteArray) : (libDoV (mkReel size lines) lines st line).reel = mkReel size (libDoV (mkReel size lines) lines st line).lines ∧ Reach (libDoV (mkReel size lines) lines st line).lines (libDoV (mkReel size lines) lines st line).st := by
  rw [libDo_run]
  by_cases h1 : (doS st line).1 ≠ 0
  · rw [if_pos h1]; exact ⟨rfl, h⟩
  · rw [if_neg h1]
    by_cases h2 : size < ((booksV lines).length : Int) + ((writtenV line).length : Int)
    · rw [if_pos h2]; exact ⟨rfl, h⟩
    · rw [if_neg h2]; exact ⟨rfl, h.snoc (by simpa using h1)⟩
section
set_option maxRecDepth 100000
set_option maxHeartbeats 2000000
theorem own_string_row {w : World} {base : Nat} {v : Value} {n : Nat} {lines : List ByteArray} (hn : lines.length = n) (h : w.ownsRow base 9 1 v n (lines.map Value.string)) : Kd.string.R 9 w base (fun j => base ≤ j) v lines := by
  subst hn
  exact Kd.R_of_own h (fun k hk => by
    obtain ⟨_, h2⟩ := h
    rcases h2 with ⟨rfl, _⟩ | ⟨g, cap, cur, rfl, hb, _⟩
    · simp [Value.ownBlock] at hk
    · have : g = k := by simpa [Value.ownBlock] using hk
      omega)
theorem journal_calls {W : World} {lg sg rg : Nat} {vj : Value} {lines : List ByteArray} {st : St} (h : LibS B W lg sg rg vj lines st) : Calls Tryz.prog 12 #[ptr lg] W fun e w' => (∃ v, e = .returned v ∧ Kd.string.R 9 w' W.heap.size (fun j => W.heap.size ≤ j) v lines) ∧ Below W.heap.size W w' := by
  have HU := Aside0.mk (unmade_calls h.cells)
  have HF := Aside0.mk h.few
  obtain ⟨A4, c4, rfl⟩ := Kd.R_slice h.jr
  have q2 : W.cell? ⟨lg, 2, none⟩ = some (.slice A4 lines.length c4) := (blk_cell h.cells 2).trans rfl
  have HC : Aside0 (Calls Tryz.prog 24 #[.slice A4 lines.length c4] W fun e w' => (∃ v, e = .returned v ∧ Kd.string.R 9 w' W.heap.size (fun j => W.heap.size ≤ j) v lines) ∧ Below W.heap.size W w') := by
    constructor
    by_cases hl : lines = []
    · subst hl
      cases A4 with
      | none => exact (Tryz.slices_Clone_string_nil 0 c4 W).mono fun e w' hw => by obtain ⟨rfl, rfl⟩ := hw; exact ⟨⟨_, rfl, Kd.R_nil _ _ _ _ _⟩, Below.refl _ _⟩
      | some a => exact (Tryz.slices_Clone_string_zero a c4 W).mono fun e w' hw => by obtain ⟨v, rfl, ho, _, hb⟩ := hw; exact ⟨⟨v, rfl, own_string_row (lines := []) rfl ho⟩, hb⟩
    · obtain ⟨g, cap, e, _⟩ := Kd.R_form h.jr (List.length_pos_iff.2 hl)
      injection e with e _ _
      subst e
      refine (Tryz.slices_Clone_string g 0 lines.length c4 lines W (Nat.le_refl _) (by have := h.few; omega) (fun j hj => by
        have hc := (Kd.R_celln ByteArray.empty h.jr (j : Int) (by omega) (by omega)).1
        simpa [rdOf] using hc)).mono fun e w' hw => ?_
      obtain ⟨v, rfl, ho, _, hb⟩ := hw
      rw [List.take_length] at ho
      exact ⟨⟨v, rfl, own_string_row rfl ho⟩, hb⟩
  clear h
  go_enter Tryz.func12, Tryz.ntmps12
  go_wp2_with (first | (go_at_call 35; refine HU.out.mono ?_; rintro e w' ⟨rfl, rfl⟩) | (go_at_call 24; refine HC.out.mono ?_; rintro e w1 ⟨⟨v, rfl, hr⟩, hb⟩; have HR1 := Aside0.mk hr; have HB1 := Aside0.mk hb; clear hr hb))
  go_ret
  exact ⟨⟨v, rfl, HR1.out⟩, HB1.out⟩
/-- A library that has done lines, on its reel. -/
structure Ran (B : Nat) (w : World) (lg rg : Nat) (lines : List ByteArray) (st : St) : Prop where
  reach : Reach lines st
  at_ : ∃ sg vj A m c, LibS B w lg sg rg vj lines st ∧ ReelIs B w rg A m c (mkReel 20000 lines)
theorem Ran.below {w w' : World} {lg rg : Nat} {lines : List ByteArray} {st : St} (h : Ran B w lg rg lines st) (hb : Below w.heap.size w w') : Ran B w' lg rg lines st := by
  obtain ⟨sg, vj, A, m, c, h1, h2⟩ := h.at_
  exact ⟨h.reach, sg, vj, A, m, c, h1.below hb, h2.below hb⟩
theorem Ran.do {w : World} {lg rg : Nat} {lines : List ByteArray} {st : St} (h : Ran B w lg rg lines st) (hT : Tabs w) {line : ByteArray} (hs : line.size < 4294967281) : Calls Tryz.prog 15 #[ptr lg, .string line] w fun e w' =>
    e = .returned (.tuple #[.string (libDoV (mkReel 20000 lines) lines st line).reply, .int .i64 (libDoV (mkReel 20000 lines) lines st line).err]) ∧ Ran B w' lg rg (libDoV (mkReel 20000 lines) lines st line).lines (libDoV (mkReel 20000 lines) lines st line).st ∧ Below B w w' := by
  obtain ⟨sg, vj, A, m, c, h1, h2⟩ := h.at_
  obtain ⟨A4, c4, rfl⟩ := Kd.R_slice h1.jr
  refine (libDo_calls h1 h2 hT rfl (h2.len.1.symm) hs).mono fun e w' hw => ?_
  obtain ⟨rfl, ⟨sg', vj', A', m', c', l1, l2, _⟩, _, hb⟩ := hw
  obtain ⟨e1, e2⟩ := libDo_reach (size := 20000) h.reach line
  rw [e1] at l2
  exact ⟨rfl, ⟨e2, sg', vj', A', m', c', l1, l2⟩, hb⟩
theorem new_ran {W : World} (hT : Tabs W) : Calls Tryz.prog 17 #[.int .i64 20000] W fun e w1 => e = .returned (.tuple #[ptr W.heap.size, .int .i64 0]) ∧ Below W.heap.size W w1 ∧ W.heap.size < w1.heap.size ∧
    Calls Tryz.prog 18 #[ptr W.heap.size] w1 (fun e w2 => ∃ lg, e = .returned (.tuple #[ptr lg, .int .i64 0]) ∧ Ran W.heap.size w2 lg W.heap.size [] St.begin ∧ Below W.heap.size W w2) := by
  refine (newReel_ok 20000 W (by decide) (by decide)).mono ?_
  rintro e w1 ⟨rfl, hr, hb⟩
  have hri : ReelIs W.heap.size w1 W.heap.size none 0 0 (newReel 20000) := ⟨hr, Nat.le_refl _, Kd.R_nil _ _ _ _ _, ⟨by decide, by decide, by decide, by decide, by decide⟩⟩
  refine ⟨rfl, hb, blk_lt hr, (libOpen_on hri rfl (fun x hx => by cases hx) (hT.below hb hT.low)).mono ?_⟩
  rintro e w2 ⟨rfl, ⟨sg, vj, hl⟩, ⟨m', hr2⟩, _, hb2⟩
  have e0 : openM (newReel 20000).b = ([], St.begin) := Reach.nil.open
  rw [e0] at hl hr2
  refine ⟨_, rfl, ⟨Reach.nil, sg, vj, none, m', 0, ?_, hr2⟩, hb.trans hb2⟩
  exact ⟨hl.cells, Nat.le_trans hb.size hl.low, Kd.R_lower hl.jr hb.size, hl.sat.mono (fun k hk => Nat.le_trans hb.size hk), hl.good, hl.short, hl.bk⟩
end
end Go.Proofs.YtoeeipkiadbnpaaGreatDoor.Lib10
end

section
namespace Go.Proofs.YtoeeipkiadbnpaaGreatDoor.Lib10
open Go.RowKit Go.Proofs.YtoeeipkiadbnpaaGreatDoorW.PrintWords Go.Proofs.YtoeeipkiadbnpaaGreatDoorW.PrintLast Go.Proofs.YtoeeipkiadbnpaaGreatDoorW.PrintMore
set_option linter.unusedVariables false
variable {B : Nat}
theorem LibS.grow {W W' : World} {lg sg rg : Nat} {vj : Value} {lines : List ByteArray} {st : St} {row : Option Nat} (h : LibS B W lg sg rg vj lines st) (hg : W.grownBy W' row) (hr : ∀ k, some k = row → (∃ cells, W.heap[k]? = some (.cells cells 9 (0, 0))) ∧ some k ≠ vj.ownBlock) : LibS B W' lg sg rg vj lines st := by
  refine ⟨(hg.block lg (blk_lt h.cells) (fun e => by obtain ⟨⟨cells, hc⟩, _⟩ := hr lg e; exact type_ne hc h.cells (show (9 : Nat) ≠ 77 by decide) rfl)).trans h.cells, h.low, ?_, h.sat.grown hg (fun k hk => by obtain ⟨⟨cells, hc⟩, _⟩ := hr k hk; exact ⟨cells, 9, hc, by decide, by decide⟩), h.good, h.short, h.bk⟩
  have h2 : Kd.string.R 9 W B (fun k => some k = vj.ownBlock) vj lines := by
    refine ⟨fun k hk => hk.symm, ?_⟩
    obtain ⟨_, ho⟩ := h.jr
    exact ho
  exact Kd.R_mono (R_same h2 rfl (fun k hk hl => hg.block k hl (fun e => (hr k e).2 hk))) (fun _ _ => trivial)
/-- A library that does lines while a fuse burns; what was acknowledged lies in a row of its own. -/
structure Burn (B : Nat) (w : World) (lg rg : Nat) (lines : List ByteArray) (st : St) (x : ReelV) (sg : Nat) (vj : Value) (A : Option Addr) (m c : Nat) (v : Value) : Prop where
  reach : Reach lines st
  lib : LibS B w lg sg rg vj lines st
  reel : ReelIs B w rg A m c x
  sure : Kd.string.R 9 w B (fun k => ¬ LF lg vj rg A m c k) v lines
  tabs : Tabs w
theorem LF.lt {W : World} {lg sg rg : Nat} {vj : Value} {lines : List ByteArray} {st : St} {A : Option Addr} {m c : Nat} {x : ReelV} (h1 : LibS B W lg sg rg vj lines st) (h2 : ReelIs B W rg A m c x) : ∀ k, LF lg vj rg A m c k → k < W.heap.size := by
  rintro k ((rfl | hk) | hk)
  · exact blk_lt h1.cells
  · obtain ⟨cells, hc⟩ := own_type h1.jr k hk
    exact blk_lt hc
  · exact (h2.own k hk).2
/-- A change has been done: what was acknowledged still lies there. -/
theorem sure_step {w w' : World} {lg rg : Nat} {vj vj' : Value} {A A' : Option Addr} {m c m' c' : Nat} {v : Value} {lines : List ByteArray} (h : Kd.string.R 9 w B (fun k => ¬ LF lg vj rg A m c k) v lines) (hk : Kept w w' (LF lg vj rg A m c)) (hn : ∀ k, LF lg vj' rg A' m' c' k → LF lg vj rg A m c k ∨ w.heap.size ≤ k) :
    Kd.string.R 9 w' B (fun k => ¬ LF lg vj' rg A' m' c' k) v lines := by
  have h2 : Kd.string.R 9 w B (fun k => ¬ LF lg vj rg A m c k ∧ k < w.heap.size) v lines := by
    refine ⟨fun k hk2 => ⟨h.1 k hk2, ?_⟩, ?_⟩
    · obtain ⟨cells, hc⟩ := own_type h k hk2.symm
      exact blk_lt hc
    · obtain ⟨_, ho⟩ := h
      exact ho
  refine Kd.R_mono (R_same h2 rfl (fun k hk2 hl => hk.2 k hl hk2.1)) (fun k hk2 hf => ?_)
  rcases hn k hf with h3 | h3
  · exact hk2.1 h3
  · have := hk2.2; omega
theorem Burn.do {w : World} {lg rg : Nat} {lines : List ByteArray} {st : St} {x : ReelV} {sg : Nat} {vj : Value} {A : Option Addr} {m c : Nat} {v : Value} (h : Burn B w lg rg lines st x sg vj A m c v) (ho : x.off = false) (hb : x.b = booksV lines) (hB : 9 ≤ B) {line : ByteArray} (hs : line.size < 4294967281) :
    Calls Tryz.prog 15 #[ptr lg, .string line] w fun e w' => e = .returned (.tuple #[.string (libDoV x lines st line).reply, .int .i64 (libDoV x lines st line).err]) ∧ (∃ sg' vj' A' m' c', LibS B w' lg sg' rg vj' (libDoV x lines st line).lines (libDoV x lines st line).st ∧ ReelIs B w' rg A' m' c' (libDoV x lines st line).reel ∧ Kd.string.R 9 w' B (fun k => ¬ LF lg vj' rg A' m' c' k) v lines ∧ Tabs w') ∧ Below B w w' := by
  obtain ⟨A4, c4, rfl⟩ := Kd.R_slice h.lib.jr
  refine (libDo_calls h.lib h.reel h.tabs ho (by rw [h.reel.len.1, hb]) hs).mono fun e w' hw => ?_
  obtain ⟨rfl, ⟨sg', vj', A', m', c', l1, l2, l3⟩, hk, hbl⟩ := hw
  exact ⟨rfl, ⟨sg', vj', A', m', c', l1, l2, sure_step h.sure hk l3, h.tabs.below hbl hB⟩, hbl⟩
theorem add_block (a : Addr) (n : Nat) : (a.add n).block = a.block := by unfold Addr.add; split <;> rfl
/-- Bytes some of which have one bit turned over: which, stands in met. -/
structure Flipped (b0 b : List Int) (met : List Bool) : Prop where
  len : b.length = b0.length
  mlen : met.length = b0.length
  no : ∀ i, met.getD i false = false → b.getD i 0 = b0.getD i 0
  yes : ∀ i, met.getD i false = true → ∃ k, 0 ≤ k ∧ k < 8 ∧ b.getD i 0 = flipB (b0.getD i 0) k
theorem getD_set {α : Type} (l : List α) (i j : Nat) (v d : α) (hi : i < l.length) : (l.set i v).getD j d = if j = i then v else l.getD j d := by
  simp only [List.getD_eq_getElem?_getD, List.getElem?_set]
  by_cases h : j = i
  · subst h; simp [hi]
  · rw [if_neg (fun e => h e.symm), if_neg h]
theorem Flipped.step {b0 b : List Int} {met : List Bool} (h : Flipped b0 b met) {i : Nat} (hi : i < b0.length) {k : Int} (k0 : 0 ≤ k) (k8 : k < 8) (hm : met.getD i false = false) : Flipped b0 (b.set i (flipB (b.getD i 0) k)) (met.set i true) := by
  refine ⟨by rw [List.length_set]; exact h.len, by rw [List.length_set]; exact h.mlen, fun j hj => ?_, fun j hj => ?_⟩
  · rw [getD_set _ _ _ _ _ (by rw [h.mlen]; exact hi)] at hj
    rw [getD_set _ _ _ _ _ (by rw [h.len]; exact hi)]
    by_cases e : j = i
    · rw [if_pos e] at hj; cases hj
    · rw [if_neg e] at hj ⊢; exact h.no j hj
  · rw [getD_set _ _ _ _ _ (by rw [h.mlen]; exact hi)] at hj
    rw [getD_set _ _ _ _ _ (by rw [h.len]; exact hi)]
    by_cases e : j = i
    · rw [if_pos e]; subst e; exact ⟨k, k0, k8, by rw [h.no j hm]⟩
    · rw [if_neg e] at hj ⊢; exact h.yes j hj
theorem Flipped.decs {b0 b : List Int} {met : List Bool} (h : Flipped b0 b met) (hc : ∀ x ∈ b0, IsCode x) : b.map decV = b0.map decV := by
  apply List.ext_getElem?
  intro i
  rw [List.getElem?_map, List.getElem?_map]
  by_cases hi : i < b0.length
  · have hib : i < b.length := by rw [h.len]; exact hi
    rw [List.getElem?_eq_getElem hi, List.getElem?_eq_getElem hib]
    have e1 : b.getD i 0 = b[i] := by simp [List.getD_eq_getElem?_getD, hib]
    have e2 : b0.getD i 0 = b0[i] := by simp [List.getD_eq_getElem?_getD, hi]
    simp only [Option.map_some, Option.some.injEq]
    cases hm : met.getD i false with
    | false => rw [← e1, ← e2, h.no i hm]
    | true =>
      obtain ⟨k, k0, k8, e⟩ := h.yes i hm
      rw [← e1, ← e2, e, e2]
      exact (hc _ (List.getElem_mem hi)).flip k0 k8
  · rw [List.getElem?_eq_none (l := b) (by have := h.len; omega), List.getElem?_eq_none (l := b0) (by omega)]
/-- Turning bits over. -/
structure Flips (B : Nat) (W0 w : World) (rg : Nat) (A : Option Addr) (m c : Nat) (x : ReelV) (AM : Option Addr) (nb cM : Nat) (A10 : Option Addr) (c10 : Nat) (lines : List ByteArray) (y : ReelV) (met : List Bool) : Prop where
  reel : ReelIs B w rg A m c y
  fl : Flipped x.b y.b met
  off : y.off = false
  met : Kd.bool.R 4 w B (fun _ => True) (.slice AM nb cM) met
  sure : Kd.string.R 9 w B (fun _ => True) (.slice A10 lines.length c10) lines
  tabs : Tabs w
  bel : Below B W0 w
theorem Flipped.byt {b0 b : List Int} {met : List Bool} (h : Flipped b0 b met) (hc : ∀ x ∈ b0, IsCode x) : Byt b := fun x hx => by
  obtain ⟨i, hi, rfl⟩ := List.mem_iff_getElem.1 hx
  have hi0 : i < b0.length := by rw [← h.len]; exact hi
  have e1 : b.getD i 0 = b[i] := by simp [List.getD_eq_getElem?_getD, hi]
  have e2 : b0.getD i 0 = b0[i] := by simp [List.getD_eq_getElem?_getD, hi0]
  have hb := code_byt (hc _ (List.getElem_mem hi0))
  cases hm : met.getD i false with
  | false => rw [← e1, h.no i hm, e2]; exact hb
  | true =>
    obtain ⟨k, k0, k8, e⟩ := h.yes i hm
    rw [← e1, e, e2]
    exact flipB_range hb ⟨k0, k8⟩
theorem Flips.below {W0 w w' : World} {rg : Nat} {A : Option Addr} {m c : Nat} {x : ReelV} {AM : Option Addr} {nb cM : Nat} {A10 : Option Addr} {c10 : Nat} {lines : List ByteArray} {y : ReelV} {met : List Bool} (h : Flips B W0 w rg A m c x AM nb cM A10 c10 lines y met) (hb : Below w.heap.size w w') (h9 : 9 ≤ B) : Flips B W0 w' rg A m c x AM nb cM A10 c10 lines y met :=
  ⟨h.reel.below hb, h.fl, h.off, Kd.R_below h.met hb, Kd.R_below h.sure hb, h.tabs.below (hb.mono (by have := h.reel.low; have := blk_lt h.reel.rc; omega)) h9, h.bel.trans (hb.mono (by have := h.reel.low; have := blk_lt h.reel.rc; omega))⟩
section
set_option maxRecDepth 100000
set_option maxHeartbeats 2000000
theorem wrap_step (j : Nat) (h : j < 1048576) : wrap64 ((j : Int) + 1) = ((j + 1 : Nat) : Int) := by unfold wrap64; omega
theorem equal_rows {W : World} {A A' : Option Addr} {n c m d : Nat} {xs ys : List ByteArray} {b1 b2 : Nat} {k1 k2 : Nat → Prop} (h1 : Kd.string.R 9 W b1 k1 (.slice A n c) xs) (h2 : Kd.string.R 9 W b2 k2 (.slice A' m d) ys) (hx : xs.length ≤ 1000000) (hy : ys.length ≤ 1000000) :
    Calls Tryz.prog 20 #[.slice A n c, .slice A' m d] W fun e w' => e = .returned (.bool (decide (xs = ys))) ∧ ∃ q, w' = W.drewN q := by
  obtain ⟨hn, _, _⟩ := Kd.R_reads' h1
  obtain ⟨hm, _, _⟩ := Kd.R_reads' h2
  subst hn hm
  by_cases hxe : xs = []
  · subst hxe
    refine (Tryz.slices_Equal_string_empty A A' c ys.length d W (by omega)).mono fun e w' hw => ?_
    obtain ⟨rfl, rfl⟩ := hw
    refine ⟨?_, 0, rfl⟩
    have : decide (ys.length = 0) = decide (([] : List ByteArray) = ys) := decide_eq_decide.2 ⟨fun h => (List.length_eq_zero_iff.1 h).symm, fun h => by rw [← h]; rfl⟩
    rw [this]
  · by_cases hye : ys = []
    · subst hye
      refine (Tryz.slices_Equal_string_lens A A' xs.length c 0 d W (fun e => hxe (List.length_eq_zero_iff.1 e))).mono fun e w' hw => ?_
      obtain ⟨rfl, rfl⟩ := hw
      exact ⟨by rw [decide_eq_false hxe], 0, rfl⟩
    · obtain ⟨g, cap, e, _⟩ := Kd.R_form h1 (List.length_pos_iff.2 hxe)
      injection e with e _ _
      subst e
      obtain ⟨g2, cap2, e, _⟩ := Kd.R_form h2 (List.length_pos_iff.2 hye)
      injection e with e _ _
      subst e
      refine (Tryz.slices_Equal_string g 0 xs.length c g2 0 ys.length d xs ys W (Nat.le_refl _) (Nat.le_refl _) (by omega) (by omega) (fun j hj => by
        have hc := (Kd.R_celln ByteArray.empty h1 (j : Int) (by omega) (by omega)).1
        simpa [rdOf] using hc) (fun j hj => by
        have hc := (Kd.R_celln ByteArray.empty h2 (j : Int) (by omega) (by omega)).1
        simpa [rdOf] using hc)).mono fun e w' hw => ?_
      rw [List.take_length, List.take_length] at hw
      exact hw
end
end Go.Proofs.YtoeeipkiadbnpaaGreatDoor.Lib10
end

section
namespace Go.Proofs.YtoeeipkiadbnpaaGreatDoor.Lib10
open Go.RowKit Go.Proofs.YtoeeipkiadbnpaaGreatDoorW.PrintWords Go.Proofs.YtoeeipkiadbnpaaGreatDoorW.PrintLast Go.Proofs.YtoeeipkiadbnpaaGreatDoorW.PrintMore
set_option linter.unusedVariables false
section
set_option maxRecDepth 100000
set_option maxHeartbeats 2000000
end
end Go.Proofs.YtoeeipkiadbnpaaGreatDoor.Lib10
end
