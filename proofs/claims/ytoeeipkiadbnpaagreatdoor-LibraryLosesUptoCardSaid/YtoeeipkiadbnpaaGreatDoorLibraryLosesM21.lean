/- Texts that the proof of LibraryLoses needs, put together in build order by this session's program (wip/tools/claimtrim.py). -/
import Derived.Test.YtoeeipkiadbnpaaGreatDoorLibraryLosesM20
section
namespace Go.Proofs.YtoeeipkiadbnpaaGreatDoor.Lib10
open Go.RowKit Go.Proofs.YtoeeipkiadbnpaaGreatDoorW.PrintWords Go.Proofs.YtoeeipkiadbnpaaGreatDoorW.PrintLast Go.Proofs.YtoeeipkiadbnpaaGreatDoorW.PrintMore
set_option linter.unusedVariables false
variable {B : Nat}
theorem appendV_free : ∀ (bs : List Int) (x : ReelV), x.fuse = -1 → (x.b.length : Int) + (bs.length : Int) ≤ x.size → appendV x bs = (0, { x with b := x.b ++ bs })
  | [], x, _, _ => by rw [appendV, List.append_nil]
  | b :: bs, x, hf, hs => by
    rw [appendV, if_neg (by rw [hf]; decide), if_neg (by simp at hs; omega)]
    have hl : less x.fuse = -1 := by rw [hf]; rfl
    rw [hl, appendV_free bs _ rfl (by simp at hs ⊢; omega)]
    obtain ⟨xb, xs, xo, xf⟩ := x
    simp at hf
    subst hf
    simp
/-- The reel of a library that has done lines. -/
def mkReel (size : Int) (lines : List ByteArray) : ReelV := ⟨booksV lines, size, false, -1⟩
theorem libDo_run (size : Int) (lines : List ByteArray) (st : St) (line : ByteArray) :
    libDoV (mkReel size lines) lines st line = if (doS st line).1 ≠ 0 then ⟨ByteArray.empty, (doS st line).1, mkReel size lines, lines, st⟩ else if size < ((booksV lines).length : Int) + ((writtenV line).length : Int) then ⟨ByteArray.empty, 7, mkReel size lines, lines, st⟩ else ⟨headW line, 0, mkReel size (lines ++ [line]), lines ++ [line], (doS st line).2⟩ := by
  unfold libDoV
  by_cases h1 : (doS st line).1 ≠ 0
  · rw [if_pos h1, if_pos h1]
  · rw [if_neg h1, if_neg h1]
    by_cases h2 : size < ((booksV lines).length : Int) + ((writtenV line).length : Int)
    · rw [if_pos (by exact h2), if_pos h2]
    · rw [if_neg (by exact h2), if_neg h2]
      have ha := appendV_free (writtenV line) (mkReel size lines) rfl (by show ((booksV lines).length : Int) + _ ≤ size; omega)
      rw [ha, if_neg (by simp)]
      have e : ({ mkReel size lines with b := (mkReel size lines).b ++ writtenV line } : ReelV) = mkReel size (lines ++ [line]) := by
        unfold mkReel
        rw [booksV_snoc]
      show (⟨headW line, 0, _, _, _⟩ : DoRes) = _
      rw [← e]
theorem libDo_reach {size : Int} {lines : List ByteArray} {st : St} (h : Reach lines st) (line : ByteArray) : (libDoV (mkReel size lines) lines st line).reel = mkReel size (libDoV (mkReel size lines) lines st line).lines ∧ Reach (libDoV (mkReel size lines) lines st line).lines (libDoV (mkReel size lines) lines st line).st := by
  rw [libDo_run]
  by_cases h1 : (doS st line).1 ≠ 0
  · rw [if_pos h1]; exact ⟨rfl, h⟩
  · rw [if_neg h1]
    by_cases h2 : size < ((booksV lines).length : Int) + ((writtenV line).length : Int)
    · rw [if_pos h2]; exact ⟨rfl, h⟩
    · rw [if_neg h2]; exact ⟨rfl, h.snoc (by simpa using h1)⟩
section
set_option maxRecDepth 100000
set_option maxHeartbeats 2000000
theorem own_string_row {w : World} {base : Nat} {v : Value} {n : Nat} {lines : List ByteArray} (hn : lines.length = n) (h : w.ownsRow base 9 1 v n (lines.map Value.string)) : Kd.string.R 9 w base (fun j => base ≤ j) v lines := by
  subst hn
  exact Kd.R_of_own h (fun k hk => by
    obtain ⟨_, h2⟩ := h
    rcases h2 with ⟨rfl, _⟩ | ⟨g, cap, cur, rfl, hb, _⟩
    · simp [Value.ownBlock] at hk
    · have : g = k := by simpa [Value.ownBlock] using hk
      omega)
theorem journal_calls {W : World} {lg sg rg : Nat} {vj : Value} {lines : List ByteArray} {st : St} (h : LibS B W lg sg rg vj lines st) : Calls Tryz.prog 12 #[ptr lg] W fun e w' => (∃ v, e = .returned v ∧ Kd.string.R 9 w' W.heap.size (fun j => W.heap.size ≤ j) v lines) ∧ Below W.heap.size W w' := by
  have HU := Aside0.mk (unmade_calls h.cells)
  have HF := Aside0.mk h.few
  obtain ⟨A4, c4, rfl⟩ := Kd.R_slice h.jr
  have q2 : W.cell? ⟨lg, 2, none⟩ = some (.slice A4 lines.length c4) := (blk_cell h.cells 2).trans rfl
  have HC : Aside0 (Calls Tryz.prog 24 #[.slice A4 lines.length c4] W fun e w' => (∃ v, e = .returned v ∧ Kd.string.R 9 w' W.heap.size (fun j => W.heap.size ≤ j) v lines) ∧ Below W.heap.size W w') := by
    constructor
    by_cases hl : lines = []
    · subst hl
      cases A4 with
      | none => exact (Tryz.slices_Clone_string_nil 0 c4 W).mono fun e w' hw => by obtain ⟨rfl, rfl⟩ := hw; exact ⟨⟨_, rfl, Kd.R_nil _ _ _ _ _⟩, Below.refl _ _⟩
      | some a => exact (Tryz.slices_Clone_string_zero a c4 W).mono fun e w' hw => by obtain ⟨v, rfl, ho, _, hb⟩ := hw; exact ⟨⟨v, rfl, own_string_row (lines := []) rfl ho⟩, hb⟩
    · obtain ⟨g, cap, e, _⟩ := Kd.R_form h.jr (List.length_pos_iff.2 hl)
      injection e with e _ _
      subst e
      refine (Tryz.slices_Clone_string g 0 lines.length c4 lines W (Nat.le_refl _) (by have := h.few; omega) (fun j hj => by
        have hc := (Kd.R_celln ByteArray.empty h.jr (j : Int) (by omega) (by omega)).1
        simpa [rdOf] using hc)).mono fun e w' hw => ?_
      obtain ⟨v, rfl, ho, _, hb⟩ := hw
      rw [List.take_length] at ho
      exact ⟨⟨v, rfl, own_string_row rfl ho⟩, hb⟩
  clear h
  go_enter Tryz.func12, Tryz.ntmps12
  go_wp2_with (first | (go_at_call 35; refine HU.out.mono ?_; rintro e w' ⟨rfl, rfl⟩) | (go_at_call 24; refine HC.out.mono ?_; rintro e w1 ⟨⟨v, rfl, hr⟩, hb⟩; have HR1 := Aside0.mk hr; have HB1 := Aside0.mk hb; clear hr hb))
  go_ret
  exact ⟨⟨v, rfl, HR1.out⟩, HB1.out⟩
/-- A library that has done lines, on its reel. -/
structure Ran (B : Nat) (w : World) (lg rg : Nat) (lines : List ByteArray) (st : St) : Prop where
  reach : Reach lines st
  at_ : ∃ sg vj A m c, LibS B w lg sg rg vj lines st ∧ ReelIs B w rg A m c (mkReel 20000 lines)
theorem Ran.below {w w' : World} {lg rg : Nat} {lines : List ByteArray} {st : St} (h : Ran B w lg rg lines st) (hb : Below w.heap.size w w') : Ran B w' lg rg lines st := by
  obtain ⟨sg, vj, A, m, c, h1, h2⟩ := h.at_
  exact ⟨h.reach, sg, vj, A, m, c, h1.below hb, h2.below hb⟩
theorem Ran.do {w : World} {lg rg : Nat} {lines : List ByteArray} {st : St} (h : Ran B w lg rg lines st) (hT : Tabs w) {line : ByteArray} (hs : line.size < 4294967281) : Calls Tryz.prog 15 #[ptr lg, .string line] w fun e w' =>
    e = .returned (.tuple #[.string (libDoV (mkReel 20000 lines) lines st line).reply, .int .i64 (libDoV (mkReel 20000 lines) lines st line).err]) ∧ Ran B w' lg rg (libDoV (mkReel 20000 lines) lines st line).lines (libDoV (mkReel 20000 lines) lines st line).st ∧ Below B w w' := by
  obtain ⟨sg, vj, A, m, c, h1, h2⟩ := h.at_
  obtain ⟨A4, c4, rfl⟩ := Kd.R_slice h1.jr
  refine (libDo_calls h1 h2 hT rfl (h2.len.1.symm) hs).mono fun e w' hw => ?_
  obtain ⟨rfl, ⟨sg', vj', A', m', c', l1, l2, _⟩, _, hb⟩ := hw
  obtain ⟨e1, e2⟩ := libDo_reach (size := 20000) h.reach line
  rw [e1] at l2
  exact ⟨rfl, ⟨e2, sg', vj', A', m', c', l1, l2⟩, hb⟩
theorem new_ran {W : World} (hT : Tabs W) : Calls Tryz.prog 17 #[.int .i64 20000] W fun e w1 => e = .returned (.tuple #[ptr W.heap.size, .int .i64 0]) ∧ Below W.heap.size W w1 ∧ W.heap.size < w1.heap.size ∧
    Calls Tryz.prog 18 #[ptr W.heap.size] w1 (fun e w2 => ∃ lg, e = .returned (.tuple #[ptr lg, .int .i64 0]) ∧ Ran W.heap.size w2 lg W.heap.size [] St.begin ∧ Below W.heap.size W w2) := by
  refine (newReel_ok 20000 W (by decide) (by decide)).mono ?_
  rintro e w1 ⟨rfl, hr, hb⟩
  have hri : ReelIs W.heap.size w1 W.heap.size none 0 0 (newReel 20000) := ⟨hr, Nat.le_refl _, Kd.R_nil _ _ _ _ _, ⟨by decide, by decide, by decide, by decide, by decide⟩⟩
  refine ⟨rfl, hb, blk_lt hr, (libOpen_on hri rfl (fun x hx => by cases hx) (hT.below hb hT.low)).mono ?_⟩
  rintro e w2 ⟨rfl, ⟨sg, vj, hl⟩, ⟨m', hr2⟩, _, hb2⟩
  have e0 : openM (newReel 20000).b = ([], St.begin) := Reach.nil.open
  rw [e0] at hl hr2
  refine ⟨_, rfl, ⟨Reach.nil, sg, vj, none, m', 0, ?_, hr2⟩, hb.trans hb2⟩
  exact ⟨hl.cells, Nat.le_trans hb.size hl.low, Kd.R_lower hl.jr hb.size, hl.sat.mono (fun k hk => Nat.le_trans hb.size hk), hl.good, hl.short, hl.bk⟩
end
end Go.Proofs.YtoeeipkiadbnpaaGreatDoor.Lib10
end

section
namespace Go.Proofs.YtoeeipkiadbnpaaGreatDoor.Lib10
open Go.RowKit Go.Proofs.YtoeeipkiadbnpaaGreatDoorW.PrintWords Go.Proofs.YtoeeipkiadbnpaaGreatDoorW.PrintLast Go.Proofs.YtoeeipkiadbnpaaGreatDoorW.PrintMore
set_option linter.unusedVariables false
variable {B : Nat}
theorem appendV_fuse : ∀ (bs : List Int) (x : ReelV) (f : Nat), x.fuse = f → (x.b.length : Int) + (bs.length : Int) ≤ x.size →
    appendV x bs = if bs.length ≤ f then (0, { x with b := x.b ++ bs, fuse := ((f - bs.length : Nat) : Int) }) else (8, { x with b := x.b ++ bs.take f, fuse := 0, off := true })
  | [], x, f, hf, _ => by
    obtain ⟨xb, xs, xo, xf⟩ := x
    simp at hf
    subst hf
    simp [appendV]
  | c :: bs, x, f, hf, hs => by
    rw [appendV]
    match f, hf with
    | 0, hf =>
      obtain ⟨xb, xs, xo, xf⟩ := x
      simp at hf
      subst hf
      simp
    | f + 1, hf =>
      rw [if_neg (by rw [hf]; omega), if_neg (by simp at hs; omega)]
      have hl : less x.fuse = (f : Int) := by rw [hf]; unfold less; split <;> omega
      rw [hl, appendV_fuse bs _ f rfl (by simp at hs ⊢; omega)]
      obtain ⟨xb, xs, xo, xf⟩ := x
      by_cases h : bs.length ≤ f
      · rw [if_pos h, if_pos (by simp; omega)]
        simp
      · rw [if_neg h, if_neg (by simp; omega)]
        simp
theorem doS_err (st : St) (text : ByteArray) : (doS st text).1 ≠ 8 := by
  unfold doS
  repeat' split
  all_goals first
    | (simp; done)
    | (unfold pieceS; (repeat' split) <;> simp)
    | (unfold playerS; (repeat' split) <;> simp)
    | (unfold lendS; (repeat' split) <;> simp)
    | (unfold backS; (repeat' split) <;> simp)
    | (unfold moveS; (repeat' split) <;> simp)
    | (unfold burnS; (repeat' split) <;> simp)
theorem libDo_burn (lines : List ByteArray) (st : St) (y : ByteArray) (f : Nat) :
    ((libDoV ⟨booksV lines, 20000, false, f⟩ lines st y).err = 0 → (doS st y).1 = 0 ∧ (libDoV ⟨booksV lines, 20000, false, f⟩ lines st y).lines = lines ++ [y] ∧ (libDoV ⟨booksV lines, 20000, false, f⟩ lines st y).st = (doS st y).2 ∧ ∃ f' : Nat, (libDoV ⟨booksV lines, 20000, false, f⟩ lines st y).reel = ⟨booksV (lines ++ [y]), 20000, false, f'⟩) ∧
    ((libDoV ⟨booksV lines, 20000, false, f⟩ lines st y).err = 8 → (doS st y).1 = 0 ∧ (libDoV ⟨booksV lines, 20000, false, f⟩ lines st y).lines = lines ∧ (libDoV ⟨booksV lines, 20000, false, f⟩ lines st y).st = st ∧ ∃ q, q < (writtenV y).length ∧ (libDoV ⟨booksV lines, 20000, false, f⟩ lines st y).reel = ⟨booksV lines ++ (writtenV y).take q, 20000, true, 0⟩) ∧
    ((libDoV ⟨booksV lines, 20000, false, f⟩ lines st y).err ≠ 0 → (libDoV ⟨booksV lines, 20000, false, f⟩ lines st y).err ≠ 8 → (libDoV ⟨booksV lines, 20000, false, f⟩ lines st y).lines = lines ∧ (libDoV ⟨booksV lines, 20000, false, f⟩ lines st y).st = st ∧ (libDoV ⟨booksV lines, 20000, false, f⟩ lines st y).reel = ⟨booksV lines, 20000, false, f⟩) := by
  unfold libDoV
  by_cases h1 : (doS st y).1 ≠ 0
  · rw [if_pos h1]
    exact ⟨fun e => absurd e h1, fun e => absurd e (doS_err st y), fun _ _ => ⟨rfl, rfl, rfl⟩⟩
  · rw [if_neg h1]
    have h0 : (doS st y).1 = 0 := by simpa using h1
    by_cases h2 : (20000 : Int) < ((booksV lines).length : Int) + ((writtenV y).length : Int)
    · rw [if_pos h2]
      exact ⟨fun e => (by cases e), fun e => (by cases e), fun _ _ => ⟨rfl, rfl, rfl⟩⟩
    · rw [if_neg h2]
      have ha := appendV_fuse (writtenV y) ⟨booksV lines, 20000, false, f⟩ f rfl (by show ((booksV lines).length : Int) + _ ≤ 20000; omega)
      rw [ha]
      by_cases h3 : (writtenV y).length ≤ f
      · rw [if_pos h3, if_neg (by simp)]
        exact ⟨fun _ => ⟨h0, rfl, rfl, _, by rw [booksV_snoc]⟩, fun e => (by cases e), fun e => absurd rfl e⟩
      · rw [if_neg h3, if_pos (by simp)]
        exact ⟨fun e => (by cases e), fun _ => ⟨h0, rfl, rfl, f, by omega, rfl⟩, fun _ e => absurd rfl e⟩
theorem LibS.grow {W W' : World} {lg sg rg : Nat} {vj : Value} {lines : List ByteArray} {st : St} {row : Option Nat} (h : LibS B W lg sg rg vj lines st) (hg : W.grownBy W' row) (hr : ∀ k, some k = row → (∃ cells, W.heap[k]? = some (.cells cells 9 (0, 0))) ∧ some k ≠ vj.ownBlock) : LibS B W' lg sg rg vj lines st := by
  refine ⟨(hg.block lg (blk_lt h.cells) (fun e => by obtain ⟨⟨cells, hc⟩, _⟩ := hr lg e; exact type_ne hc h.cells (show (9 : Nat) ≠ 77 by decide) rfl)).trans h.cells, h.low, ?_, h.sat.grown hg (fun k hk => by obtain ⟨⟨cells, hc⟩, _⟩ := hr k hk; exact ⟨cells, 9, hc, by decide, by decide⟩), h.good, h.short, h.bk⟩
  have h2 : Kd.string.R 9 W B (fun k => some k = vj.ownBlock) vj lines := by
    refine ⟨fun k hk => hk.symm, ?_⟩
    obtain ⟨_, ho⟩ := h.jr
    exact ho
  exact Kd.R_mono (R_same h2 rfl (fun k hk hl => hg.block k hl (fun e => (hr k e).2 hk))) (fun _ _ => trivial)
/-- A library that does lines while a fuse burns; what was acknowledged lies in a row of its own. -/
structure Burn (B : Nat) (w : World) (lg rg : Nat) (lines : List ByteArray) (st : St) (x : ReelV) (sg : Nat) (vj : Value) (A : Option Addr) (m c : Nat) (v : Value) : Prop where
  reach : Reach lines st
  lib : LibS B w lg sg rg vj lines st
  reel : ReelIs B w rg A m c x
  sure : Kd.string.R 9 w B (fun k => ¬ LF lg vj rg A m c k) v lines
  tabs : Tabs w
theorem LF.lt {W : World} {lg sg rg : Nat} {vj : Value} {lines : List ByteArray} {st : St} {A : Option Addr} {m c : Nat} {x : ReelV} (h1 : LibS B W lg sg rg vj lines st) (h2 : ReelIs B W rg A m c x) : ∀ k, LF lg vj rg A m c k → k < W.heap.size := by
  rintro k ((rfl | hk) | hk)
  · exact blk_lt h1.cells
  · obtain ⟨cells, hc⟩ := own_type h1.jr k hk
    exact blk_lt hc
  · exact (h2.own k hk).2
/-- A change has been done: what was acknowledged still lies there. -/
theorem sure_step {w w' : World} {lg rg : Nat} {vj vj' : Value} {A A' : Option Addr} {m c m' c' : Nat} {v : Value} {lines : List ByteArray} (h : Kd.string.R 9 w B (fun k => ¬ LF lg vj rg A m c k) v lines) (hk : Kept w w' (LF lg vj rg A m c)) (hn : ∀ k, LF lg vj' rg A' m' c' k → LF lg vj rg A m c k ∨ w.heap.size ≤ k) :
    Kd.string.R 9 w' B (fun k => ¬ LF lg vj' rg A' m' c' k) v lines := by
  have h2 : Kd.string.R 9 w B (fun k => ¬ LF lg vj rg A m c k ∧ k < w.heap.size) v lines := by
    refine ⟨fun k hk2 => ⟨h.1 k hk2, ?_⟩, ?_⟩
    · obtain ⟨cells, hc⟩ := own_type h k hk2.symm
      exact blk_lt hc
    · obtain ⟨_, ho⟩ := h
      exact ho
  refine Kd.R_mono (R_same h2 rfl (fun k hk2 hl => hk.2 k hl hk2.1)) (fun k hk2 hf => ?_)
  rcases hn k hf with h3 | h3
  · exact hk2.1 h3
  · have := hk2.2; omega
theorem Burn.do {w : World} {lg rg : Nat} {lines : List ByteArray} {st : St} {x : ReelV} {sg : Nat} {vj : Value} {A : Option Addr} {m c : Nat} {v : Value} (h : Burn B w lg rg lines st x sg vj A m c v) (ho : x.off = false) (hb : x.b = booksV lines) (hB : 9 ≤ B) {line : ByteArray} (hs : line.size < 4294967281) :
    Calls Tryz.prog 15 #[ptr lg, .string line] w fun e w' => e = .returned (.tuple #[.string (libDoV x lines st line).reply, .int .i64 (libDoV x lines st line).err]) ∧ (∃ sg' vj' A' m' c', LibS B w' lg sg' rg vj' (libDoV x lines st line).lines (libDoV x lines st line).st ∧ ReelIs B w' rg A' m' c' (libDoV x lines st line).reel ∧ Kd.string.R 9 w' B (fun k => ¬ LF lg vj' rg A' m' c' k) v lines ∧ Tabs w') ∧ Below B w w' := by
  obtain ⟨A4, c4, rfl⟩ := Kd.R_slice h.lib.jr
  refine (libDo_calls h.lib h.reel h.tabs ho (by rw [h.reel.len.1, hb]) hs).mono fun e w' hw => ?_
  obtain ⟨rfl, ⟨sg', vj', A', m', c', l1, l2, l3⟩, hk, hbl⟩ := hw
  exact ⟨rfl, ⟨sg', vj', A', m', c', l1, l2, sure_step h.sure hk l3, h.tabs.below hbl hB⟩, hbl⟩
/-- What stands behind the changes. -/
structure Rest (B : Nat) (w : World) (lg rg : Nat) (lines : List ByteArray) (st : St) (x : ReelV) (sg : Nat) (vj : Value) (A : Option Addr) (m c : Nat) (v : Value) : Prop where
  burn : Burn B w lg rg lines st x sg vj A m c v
  part : ∃ part, x.b = booksV lines ++ part ∧ (part = [] ∨ ∃ last q, part = (writtenV last).take q ∧ q < (writtenV last).length ∧ isLineB last = true)
  few : lines.length ≤ 60
theorem Rest.code {w : World} {lg rg : Nat} {lines : List ByteArray} {st : St} {x : ReelV} {sg : Nat} {vj : Value} {A : Option Addr} {m c : Nat} {v : Value} (h : Rest B w lg rg lines st x sg vj A m c v) : ∀ b ∈ x.b, IsCode b := fun b hb => by
  obtain ⟨part, e, hp⟩ := h.part
  rw [e] at hb
  rcases List.mem_append.1 hb with hb | hb
  · exact code_books lines b hb
  · rcases hp with rfl | ⟨last, q, rfl, _, _⟩
    · cases hb
    · exact code_written last b (List.mem_of_mem_take hb)
theorem Rest.opens {w : World} {lg rg : Nat} {lines : List ByteArray} {st : St} {x : ReelV} {sg : Nat} {vj : Value} {A : Option Addr} {m c : Nat} {v : Value} (h : Rest B w lg rg lines st x sg vj A m c v) : openM x.b = (lines, st) := by
  obtain ⟨part, e, hp⟩ := h.part
  rw [e]
  unfold openM
  rw [h.burn.reach.read]
  rcases hp with rfl | ⟨last, q, rfl, hq, hl⟩
  · exact readM_short _ _ _ _ (by decide)
  · exact read_part hl q hq
theorem add_block (a : Addr) (n : Nat) : (a.add n).block = a.block := by unfold Addr.add; split <;> rfl
/-- Bytes some of which have one bit turned over: which, stands in met. -/
structure Flipped (b0 b : List Int) (met : List Bool) : Prop where
  len : b.length = b0.length
  mlen : met.length = b0.length
  no : ∀ i, met.getD i false = false → b.getD i 0 = b0.getD i 0
  yes : ∀ i, met.getD i false = true → ∃ k, 0 ≤ k ∧ k < 8 ∧ b.getD i 0 = flipB (b0.getD i 0) k
theorem Flipped.start (b : List Int) : Flipped b b (List.replicate b.length false) := ⟨rfl, by simp, fun _ _ => rfl, fun i h => by
  simp only [List.getD_eq_getElem?_getD, List.getElem?_replicate] at h
  split at h <;> cases h⟩
theorem getD_set {α : Type} (l : List α) (i j : Nat) (v d : α) (hi : i < l.length) : (l.set i v).getD j d = if j = i then v else l.getD j d := by
  simp only [List.getD_eq_getElem?_getD, List.getElem?_set]
  by_cases h : j = i
  · subst h; simp [hi]
  · rw [if_neg (fun e => h e.symm), if_neg h]
theorem Flipped.step {b0 b : List Int} {met : List Bool} (h : Flipped b0 b met) {i : Nat} (hi : i < b0.length) {k : Int} (k0 : 0 ≤ k) (k8 : k < 8) (hm : met.getD i false = false) : Flipped b0 (b.set i (flipB (b.getD i 0) k)) (met.set i true) := by
  refine ⟨by rw [List.length_set]; exact h.len, by rw [List.length_set]; exact h.mlen, fun j hj => ?_, fun j hj => ?_⟩
  · rw [getD_set _ _ _ _ _ (by rw [h.mlen]; exact hi)] at hj
    rw [getD_set _ _ _ _ _ (by rw [h.len]; exact hi)]
    by_cases e : j = i
    · rw [if_pos e] at hj; cases hj
    · rw [if_neg e] at hj ⊢; exact h.no j hj
  · rw [getD_set _ _ _ _ _ (by rw [h.mlen]; exact hi)] at hj
    rw [getD_set _ _ _ _ _ (by rw [h.len]; exact hi)]
    by_cases e : j = i
    · rw [if_pos e]; subst e; exact ⟨k, k0, k8, by rw [h.no j hm]⟩
    · rw [if_neg e] at hj ⊢; exact h.yes j hj
theorem Flipped.decs {b0 b : List Int} {met : List Bool} (h : Flipped b0 b met) (hc : ∀ x ∈ b0, IsCode x) : b.map decV = b0.map decV := by
  apply List.ext_getElem?
  intro i
  rw [List.getElem?_map, List.getElem?_map]
  by_cases hi : i < b0.length
  · have hib : i < b.length := by rw [h.len]; exact hi
    rw [List.getElem?_eq_getElem hi, List.getElem?_eq_getElem hib]
    have e1 : b.getD i 0 = b[i] := by simp [List.getD_eq_getElem?_getD, hib]
    have e2 : b0.getD i 0 = b0[i] := by simp [List.getD_eq_getElem?_getD, hi]
    simp only [Option.map_some, Option.some.injEq]
    cases hm : met.getD i false with
    | false => rw [← e1, ← e2, h.no i hm]
    | true =>
      obtain ⟨k, k0, k8, e⟩ := h.yes i hm
      rw [← e1, ← e2, e, e2]
      exact (hc _ (List.getElem_mem hi)).flip k0 k8
  · rw [List.getElem?_eq_none (l := b) (by have := h.len; omega), List.getElem?_eq_none (l := b0) (by omega)]
/-- Turning bits over. -/
structure Flips (B : Nat) (W0 w : World) (rg : Nat) (A : Option Addr) (m c : Nat) (x : ReelV) (AM : Option Addr) (nb cM : Nat) (A10 : Option Addr) (c10 : Nat) (lines : List ByteArray) (y : ReelV) (met : List Bool) : Prop where
  reel : ReelIs B w rg A m c y
  fl : Flipped x.b y.b met
  off : y.off = false
  met : Kd.bool.R 4 w B (fun _ => True) (.slice AM nb cM) met
  sure : Kd.string.R 9 w B (fun _ => True) (.slice A10 lines.length c10) lines
  tabs : Tabs w
  bel : Below B W0 w
theorem Flipped.byt {b0 b : List Int} {met : List Bool} (h : Flipped b0 b met) (hc : ∀ x ∈ b0, IsCode x) : Byt b := fun x hx => by
  obtain ⟨i, hi, rfl⟩ := List.mem_iff_getElem.1 hx
  have hi0 : i < b0.length := by rw [← h.len]; exact hi
  have e1 : b.getD i 0 = b[i] := by simp [List.getD_eq_getElem?_getD, hi]
  have e2 : b0.getD i 0 = b0[i] := by simp [List.getD_eq_getElem?_getD, hi0]
  have hb := code_byt (hc _ (List.getElem_mem hi0))
  cases hm : met.getD i false with
  | false => rw [← e1, h.no i hm, e2]; exact hb
  | true =>
    obtain ⟨k, k0, k8, e⟩ := h.yes i hm
    rw [← e1, e, e2]
    exact flipB_range hb ⟨k0, k8⟩
theorem Flips.below {W0 w w' : World} {rg : Nat} {A : Option Addr} {m c : Nat} {x : ReelV} {AM : Option Addr} {nb cM : Nat} {A10 : Option Addr} {c10 : Nat} {lines : List ByteArray} {y : ReelV} {met : List Bool} (h : Flips B W0 w rg A m c x AM nb cM A10 c10 lines y met) (hb : Below w.heap.size w w') (h9 : 9 ≤ B) : Flips B W0 w' rg A m c x AM nb cM A10 c10 lines y met :=
  ⟨h.reel.below hb, h.fl, h.off, Kd.R_below h.met hb, Kd.R_below h.sure hb, h.tabs.below (hb.mono (by have := h.reel.low; have := blk_lt h.reel.rc; omega)) h9, h.bel.trans (hb.mono (by have := h.reel.low; have := blk_lt h.reel.rc; omega))⟩
/-- One bit is turned over. -/
theorem Flips.meet {W0 w : World} {rg : Nat} {A : Option Addr} {m c : Nat} {x : ReelV} {g nb cM : Nat} {A10 : Option Addr} {c10 : Nat} {lines : List ByteArray} {y : ReelV} {met : List Bool} (h : Flips B W0 w rg A m c x (some ⟨g, 0, none⟩) nb cM A10 c10 lines y met) (h9 : 9 ≤ B) (hnb : x.b.length = nb) {i : Nat} (hi : i < nb) (hm : met.getD i false = false) {k : Int} (k0 : 0 ≤ k) (k8 : k < 8) :
    ReelIs B (w.setCell ⟨g, i, none⟩ (.bool true)) rg A m c y ∧ ∀ w', ReelTo B (w.setCell ⟨g, i, none⟩ (.bool true)) rg A m c m (flipV y i k) w' → Flips B W0 w' rg A m c x (some ⟨g, 0, none⟩) nb cM A10 c10 lines (flipV y i k) (met.set i true) := by
  obtain ⟨cells, hcg⟩ := own_type h.met g rfl
  have hgB : B ≤ g := Kd.R_base h.met g rfl
  have hr : Kd.bool.R 4 (w.setCell ⟨g, i, none⟩ (.bool true)) B (fun _ => True) (.slice (some ⟨g, 0, none⟩) nb cM) (met.set i true) := by
    have h1 := Kd.R_putn h.met (i : Int) true
    rw [Int.toNat_natCast] at h1
    exact h1
  have hs : ∀ k, k ≠ g → (w.setCell ⟨g, i, none⟩ (.bool true)).heap[k]? = w.heap[k]? := fun k hk => Below.heap_setCell w _ _ k hk
  have hb : Below B w (w.setCell ⟨g, i, none⟩ (.bool true)) := (Below.refl B w).setCell hgB _
  have hreel : ReelIs B (w.setCell ⟨g, i, none⟩ (.bool true)) rg A m c y := ⟨(hs rg (fun e => type_ne hcg h.reel.rc (show (4 : Nat) ≠ 70 by decide) e.symm)).trans h.reel.rc, h.reel.low, R_apart h.reel.row rfl (fun k cells hc => hs k (type_ne hc hcg (show (5 : Nat) ≠ 4 by decide))), h.reel.fine⟩
  refine ⟨hreel, fun w' ht => ?_⟩
  have hap : ∀ (k : Nat) (cells : Array Value) (t : Nat), (w.setCell ⟨g, i, none⟩ (.bool true)).heap[k]? = some (.cells cells t (0, 0)) → t ≠ 5 → t ≠ 70 → w'.heap[k]? = (w.setCell ⟨g, i, none⟩ (.bool true)).heap[k]? := fun k cells t hc h5 h70 => ht.kept.2 k (blk_lt hc) (fun hf => by
    obtain ⟨cs, t2, hc2, rfl | rfl⟩ := hreel.blk k hf
    · exact type_ne hc hc2 h5 rfl
    · exact type_ne hc hc2 h70 rfl)
  have hyl : y.b.length = nb := h.fl.len.trans hnb
  have hfl : flipV y i k = { y with b := y.b.set i (flipB (y.b.getD i 0) k) } := by
    unfold flipV
    rw [if_pos ⟨by omega, by omega, k0, k8⟩]
    rfl
  refine ⟨ht.reel, ?_, ?_, R_apart hr rfl (fun k cells hc => hap k cells 4 hc (by decide) (by decide)), R_apart (R_apart h.sure rfl (fun k cells hc => hs k (type_ne hc hcg (show (9 : Nat) ≠ 4 by decide)))) rfl (fun k cells hc => hap k cells 9 hc (by decide) (by decide)), (h.tabs.below hb h9).below ht.bel h9, (h.bel.trans hb).trans ht.bel⟩
  · rw [hfl]
    exact h.fl.step (by omega) k0 k8 hm
  · rw [hfl]
    exact h.off
theorem Flips.opened {W0 w w' : World} {rg : Nat} {A : Option Addr} {m c : Nat} {x : ReelV} {AM : Option Addr} {nb cM : Nat} {A10 : Option Addr} {c10 : Nat} {lines : List ByteArray} {y : ReelV} {met : List Bool} (h : Flips B W0 w rg A m c x AM nb cM A10 c10 lines y met) (hk : Kept w w' (RF rg A m c)) : Kd.string.R 9 w' B (fun _ => True) (.slice A10 lines.length c10) lines :=
  R_apart h.sure rfl (fun k cells hc => hk.2 k (blk_lt hc) (fun hf => by
    obtain ⟨cs, t2, hc2, rfl | rfl⟩ := h.reel.blk k hf
    · exact type_ne hc hc2 (show (9 : Nat) ≠ 5 by decide) rfl
    · exact type_ne hc hc2 (show (9 : Nat) ≠ 70 by decide) rfl))
section
set_option maxRecDepth 100000
set_option maxHeartbeats 2000000
theorem wrap_step (j : Nat) (h : j < 1048576) : wrap64 ((j : Int) + 1) = ((j + 1 : Nat) : Int) := by unfold wrap64; omega
theorem info4 : (Tryz.prog.info? 4).map (fun i => (i.zero, i.size, i.bytes)) = some (some (.bool false), 1, 1) := by kernel_rfl
theorem equal_rows {W : World} {A A' : Option Addr} {n c m d : Nat} {xs ys : List ByteArray} {b1 b2 : Nat} {k1 k2 : Nat → Prop} (h1 : Kd.string.R 9 W b1 k1 (.slice A n c) xs) (h2 : Kd.string.R 9 W b2 k2 (.slice A' m d) ys) (hx : xs.length ≤ 1000000) (hy : ys.length ≤ 1000000) :
    Calls Tryz.prog 20 #[.slice A n c, .slice A' m d] W fun e w' => e = .returned (.bool (decide (xs = ys))) ∧ ∃ q, w' = W.drewN q := by
  obtain ⟨hn, _, _⟩ := Kd.R_reads' h1
  obtain ⟨hm, _, _⟩ := Kd.R_reads' h2
  subst hn hm
  by_cases hxe : xs = []
  · subst hxe
    refine (Tryz.slices_Equal_string_empty A A' c ys.length d W (by omega)).mono fun e w' hw => ?_
    obtain ⟨rfl, rfl⟩ := hw
    refine ⟨?_, 0, rfl⟩
    have : decide (ys.length = 0) = decide (([] : List ByteArray) = ys) := decide_eq_decide.2 ⟨fun h => (List.length_eq_zero_iff.1 h).symm, fun h => by rw [← h]; rfl⟩
    rw [this]
  · by_cases hye : ys = []
    · subst hye
      refine (Tryz.slices_Equal_string_lens A A' xs.length c 0 d W (fun e => hxe (List.length_eq_zero_iff.1 e))).mono fun e w' hw => ?_
      obtain ⟨rfl, rfl⟩ := hw
      exact ⟨by rw [decide_eq_false hxe], 0, rfl⟩
    · obtain ⟨g, cap, e, _⟩ := Kd.R_form h1 (List.length_pos_iff.2 hxe)
      injection e with e _ _
      subst e
      obtain ⟨g2, cap2, e, _⟩ := Kd.R_form h2 (List.length_pos_iff.2 hye)
      injection e with e _ _
      subst e
      refine (Tryz.slices_Equal_string g 0 xs.length c g2 0 ys.length d xs ys W (Nat.le_refl _) (Nat.le_refl _) (by omega) (by omega) (fun j hj => by
        have hc := (Kd.R_celln ByteArray.empty h1 (j : Int) (by omega) (by omega)).1
        simpa [rdOf] using hc) (fun j hj => by
        have hc := (Kd.R_celln ByteArray.empty h2 (j : Int) (by omega) (by omega)).1
        simpa [rdOf] using hc)).mono fun e w' hw => ?_
      rw [List.take_length, List.take_length] at hw
      exact hw
theorem loses_walk {W : World} {A A2 : Option Addr} {c c2 n2 : Nat} {l : List ByteArray} {fl : List (Int × Int)} (hfl : fl.length = n2) (hn2 : n2 ≤ 1048576) (hF : ∀ j p, fl[j]? = some p → ∃ ad, A2 = some ad ∧ W.cell? (ad.add (j * 2)) = some (.int .i64 p.1) ∧ W.cell? (ad.add (j * 2 + 1)) = some (.int .i64 p.2)) (fz : Int) (hC : Kd.string.C W A l.length l) (hc : l.length ≤ c) (hs : ∀ x ∈ l, x.size < 4294967281) (hT : Tabs W) :
    Calls Tryz.prog 4 #[.slice A l.length c, .int .i64 fz, .slice A2 n2 c2] W fun e w' => e = .returned (.bool true) ∧ Below W.heap.size W w' := by
  have HFl := Aside0.mk (And.intro hfl hF)
  have HN := Aside0.mk (new_ran hT)
  have HC := Aside0.mk hC
  have HS := Aside0.mk hs
  have HT := Aside0.mk hT
  obtain ⟨n, hn⟩ : ∃ n, n = min l.length 60 := ⟨_, rfl⟩
  have hmin : min (l.length : Int) 60 = (n : Int) := by omega
  have HNl := Aside0.mk (show n ≤ l.length by omega)
  have h60 : n ≤ 60 := by omega
  have HN2 := Aside0.mk hn2
  clear hC hs hT hn hfl hF hn2
  go_enter Tryz.func4, Tryz.ntmps4
  obtain ⟨f0, hf0, hf2⟩ : ∃ f : Nat, wrap64 ((IntKind.u64.wrap fz).tmod 2000) = (f : Int) ∧ f < 2000 := by
    have h0 : 0 ≤ IntKind.u64.wrap fz := by
      have e : IntKind.u64.wrap fz = fz % 18446744073709551616 := rfl
      rw [e]
      omega
    have h1 : 0 ≤ (IntKind.u64.wrap fz).tmod 2000 := Int.tmod_nonneg _ h0
    have h2 : (IntKind.u64.wrap fz).tmod 2000 < 2000 := Int.tmod_lt_of_pos _ (by decide)
    refine ⟨((IntKind.u64.wrap fz).tmod 2000).toNat, ?_, by omega⟩
    unfold wrap64
    omega
  have h9 := HT.out.low
  go_wp2_with (first | (go_at_call 17; refine HN.out.mono ?_; rintro e w1 ⟨rfl, hb1, hlt1, hop⟩; have HB1 := Aside0.mk hb1; have HOp := Aside0.mk hop; clear hb1 hlt1 hop) | (go_at_call 18; refine HOp.out.mono ?_; rintro e w2 ⟨lg, rfl, hrn, hb2⟩; obtain ⟨sg0, vj0, A0, m0, c0, hl0, hr0⟩ := hrn.at_; have HL0 := Aside0.mk hl0; have HR0 := Aside0.mk hr0; have HB2 := Aside0.mk hb2; clear hrn hb2 hl0 hr0) | (go_at_call 19; refine (reel_fuse HR0.out (f0 : Int) (by omega)).mono ?_; rintro e w3 ⟨⟨u, rfl⟩, ht⟩; have HT3 := Aside0.mk ht; clear ht))
  have HN60 := Aside0.mk (And.intro h60 h9)
  clear hmin HN HOp HB1 hf0
  have HBw := Aside0.mk (show Below W.heap.size W w3 from HB2.out.trans HT3.out.bel)
  have HI := Aside0.mk (show Burn W.heap.size w3 lg W.heap.size [] St.begin ⟨[], 20000, false, f0⟩ sg0 vj0 A0 m0 c0 (.slice none 0 0) from ⟨Reach.nil, HL0.out.kept HT3.out.kept HR0.out.blk, by have h := HT3.out.reel; unfold fuseV at h; rw [if_neg (by omega)] at h; exact h, Kd.R_nil _ _ _ _ _, HT.out.below HBw.out HN60.out.2⟩)
  clear HL0 HR0 HT3 HB2
  go_loopw [10, 49] (fun v10 v49 wr => ∃ (k : Nat) (lines : List ByteArray) (st : St) (f sg : Nat) (vj : Value) (A : Option Addr) (m c : Nat), k ≤ n ∧ v49 = .int .i64 k ∧ Aside0 (lines.length ≤ k) ∧ Aside0 (Burn W.heap.size wr lg W.heap.size lines st ⟨booksV lines, 20000, false, f⟩ sg vj A m c v10) ∧ Aside0 (Below W.heap.size W wr)) (fun _ v49 _ => n - (intOf v49).toNat)
  case atStart => exact ⟨0, [], St.begin, f0, sg0, vj0, A0, m0, c0, Nat.zero_le _, rfl, ⟨Nat.le_refl _⟩, HI, HBw⟩
  case round =>
    clear HI HBw
    obtain ⟨k, lines, st, f, sg, vj, A5, m5, c5, hk, rfl, hfew, hburn, hbl⟩ := hrel
    by_cases hlt : k < n
    · have i0 : (0 : Int) ≤ (k : Int) := by omega
      have i1 : (k : Int) < (n : Int) := by omega
      have hkl : k < l.length := by have := HNl.out; omega
      obtain ⟨y, hy⟩ : ∃ y, l[k]? = some y := ⟨_, List.getElem?_eq_getElem hkl⟩
      have HSy := Aside0.mk (HS.out y (List.mem_of_getElem? hy))
      obtain ⟨ad, he, hcl⟩ := Kd.at_string (Kd.C_below HC.out hbl.out) k i0 (by omega)
      cases he
      have h1 : rdOf ByteArray.empty l (k : Int) = y := by
        unfold rdOf
        rw [Int.toNat_natCast, List.getD_eq_getElem?_getD, hy]
        rfl
      rw [h1, Int.toNat_natCast] at hcl
      have HDo := Aside0.mk (hburn.out.do rfl rfl HN60.out.2 HSy.out)
      obtain ⟨res, hres⟩ : ∃ r, r = libDoV ⟨booksV lines, 20000, false, f⟩ lines st y := ⟨_, rfl⟩
      rw [← hres] at HDo
      have HRes := Aside0.mk hres
      obtain ⟨A10, c10, hv10⟩ := Kd.R_slice hburn.out.sure
      subst hv10
      clear h1 hy hres
      replace i0 := eq_true i0
      replace i1 := eq_true i1
      by_cases he0 : res.err = 0
      · as_aux_lemma =>
        have hok := (libDo_burn lines st y f).1
        rw [← HRes.out] at hok
        obtain ⟨hd0, e1, e2, f', e3⟩ := hok he0
        have HD0 := Aside0.mk hd0
        rw [he0, e1, e2, e3] at HDo
        have HLs := Aside0.mk (show (lines.length + 1) * 16 ≤ 140737488355328 by have := hfew.out; omega)
        clear he0 e1 e2 e3 hok hd0
        go_wp2_with (first | (go_at_call 15; refine HDo.out.mono ?_; rintro e w6 ⟨rfl, ⟨sg', vj', A', m', c', l1, l2, l3, l4⟩, hb6⟩; have HX6 := Aside0.mk (And.intro l1 (And.intro l2 (And.intro l3 l4))); have HB6 := Aside0.mk (hbl.out.trans hb6); clear l1 l2 l3 l4 hb6) | (at_builtin; go_loud (refine Kd.R_append Kd.string (w0 := W) W.heap.size rfl (.tmp 61) (.tmp 63) 22 9 (.string ByteArray.empty) 16 rfl Tryz.underlying22 info9 rfl (by decide) (by omega) (.slice A10 lines.length c10) lines y [.string y] (fun k => ¬ LF lg vj' W.heap.size A' m' c' k) (fun _ => False) rfl rfl rfl (fun _ hk => hk.elim) (fun j hj hf => by have := LF.lt HX6.out.1 HX6.out.2.1 j hf; omega) HX6.out.2.2.1 HB6.out HB6.out.size (by have := HLs.out; omega) ?_); intro v7 w7 hq7 hb7 hg7 hat7; have HQ7 := Aside0.mk hq7; have HB7 := Aside0.mk hb7; have HG7 := Aside0.mk hg7; clear hq7 hb7 hg7 hat7))
        have h6 := HX6.out
        refine ⟨⟨k + 1, lines ++ [y], _, f', sg', vj', A', m', c', by omega, by first | rfl | simp, ⟨by have := hfew.out; simp; omega⟩, ⟨⟨hburn.out.reach.snoc HD0.out, h6.1.grow HG7.out (fun k hk => ⟨own_type h6.2.2.1 k hk, fun e => h6.2.2.1.1 k hk.symm (.inl (.inr e))⟩), h6.2.1.keptL ((Kept.refl w6 (fun k => some k = (Value.slice A10 lines.length c10).ownBlock)).of_grown HG7.out (fun k e => .inl e.symm)) (fun k hk => by obtain ⟨cells, hc⟩ := own_type h6.2.2.1 k hk; exact ⟨cells, 9, hc, .inl rfl⟩), HQ7.out, HT.out.below HB7.out HN60.out.2⟩⟩, HB7⟩, by simp [intOf]; omega⟩
      · by_cases he8 : res.err = 8
        · as_aux_lemma =>
          have d1 : (res.err == 0) = false := beq_eq_false_iff_ne.2 he0
          have hb8 := (libDo_burn lines st y f).2.1
          rw [← HRes.out] at hb8
          obtain ⟨hd0, e1, e2, q, hq, e3⟩ := hb8 he8
          rw [he8, e1, e2, e3] at HDo
          have HLine := Aside0.mk (doS_line hd0)
          have HQ := Aside0.mk hq
          obtain ⟨x, hx⟩ : ∃ x : ReelV, x = ⟨booksV lines ++ (writtenV y).take q, 20000, true, 0⟩ := ⟨_, rfl⟩
          have HXb := Aside0.mk (show x.b = booksV lines ++ (writtenV y).take q by rw [hx])
          rw [← hx] at HDo
          have HRch := Aside0.mk hburn.out.reach
          clear he0 he8 e1 e2 e3 hb8 hd0 hq hx d1
          go_wp2_with (go_at_call 15; refine HDo.out.mono ?_; rintro e w6 ⟨rfl, ⟨sg5, vj5, A5, m5, c5, l1, l2, l3, l4⟩, hb6⟩; have HX6 := Aside0.mk (And.intro l1 (And.intro l2 (And.intro l3 l4))); have HB6 := Aside0.mk (hbl.out.trans hb6); clear l1 l2 l3 l4 hb6)
          have HRs := Aside0.mk (show Rest W.heap.size w6 lg W.heap.size lines st x sg5 vj5 A5 m5 c5 (.slice A10 lines.length c10) from ⟨⟨HRch.out, HX6.out.1, HX6.out.2.1, HX6.out.2.2.1, HX6.out.2.2.2⟩, ⟨_, HXb.out, .inr ⟨y, q, rfl, HQ.out, HLine.out⟩⟩, by have := hfew.out; omega⟩)
          have HBel := HB6
          clear HXb HQ HLine HRch HX6 HB6 HDo HRes hburn hbl
          obtain ⟨nb, hnb⟩ : ∃ nb, x.b.length = nb := ⟨_, rfl⟩
          have HNb := Aside0.mk hnb
          have HNb5 := Aside0.mk (show nb ≤ 100000 by have := HRs.out.burn.reel.fine.len; have := HRs.out.burn.reel.fine.size1; omega)
          clear hnb
          go_wp2_with (first | (go_at_call 12; refine (journal_calls HRs.out.burn.lib).mono ?_; rintro e wj ⟨⟨vJ, rfl, hrJ⟩, hbJ⟩; obtain ⟨AJ, cJ, rfl⟩ := Kd.R_slice hrJ; have HJ := Aside0.mk hrJ; have HBJ := Aside0.mk hbJ; have HSu := Aside0.mk (Kd.R_below HRs.out.burn.sure hbJ); have HRe := Aside0.mk (HRs.out.burn.reel.below hbJ); clear hrJ hbJ) | (go_at_call 20; refine (equal_rows HJ.out HSu.out (by have := HRs.out.few; omega) (by have := HRs.out.few; omega)).mono ?_; rintro e wq ⟨he, q, rfl⟩; rw [show decide (lines = lines) = true from decide_eq_true rfl] at he; subst he; have HRe2 := Aside0.mk (HRe.out.below (drew_below wj q)); have HSu2 := Aside0.mk (Kd.R_below HSu.out (drew_below wj q)); have HBq := Aside0.mk (HBel.out.trans (HBJ.out.trans (drew_below wj q |>.mono HBJ.out.size) |>.mono HBel.out.size))) | (go_at_call 21; refine (reel_power HRe2.out).mono ?_; rintro e wp ⟨⟨u, rfl⟩, ht⟩; have HP := Aside0.mk ht; have HBp := Aside0.mk (HBq.out.trans ht.bel); clear ht) | (go_at_call 22; refine (bytes_fresh HP.out.reel).mono ?_; rintro e wb ⟨⟨vB, rfl, hrB⟩, hbB⟩; obtain ⟨AB, cB, hvB⟩ := Kd.R_slice hrB; rw [show (powerV x).b.length = nb from HNb.out] at hvB; subst hvB; have HBb := Aside0.mk hbB; have HBb2 := Aside0.mk (HBp.out.trans (hbB.mono HBp.out.size)); clear hrB hbB) | (refine gate_ (.makeSlice 47 (.tmp 79) (.tmp 79)) rfl ?_; go_loud (refine Kd.R_make Kd.bool (w0 := W) W.heap.size 4 rfl rfl 47 (.tmp 79) (.tmp 79) rfl (nb : Int) rfl rfl Tryz.underlying47 (.bool false) 1 info4 rfl (by decide) (by decide) false (ok := fun _ => True) (okp := fun _ => False) rfl (fun _ _ => trivial) trivial (by omega) (by have := HNb5.out; omega) HBb2.out HBb2.out.size ?_); intro vM wm hqM hbM hgM hatM; obtain ⟨AM, cM, hvM⟩ := Kd.R_slice hqM; rw [show (List.replicate (nb : Int).toNat false).length = nb by simp] at hvM; subst hvM; have HQM := Aside0.mk hqM; have HBM := Aside0.mk hbM; have HGM := Aside0.mk hgM; clear hqM hbM hgM hatM))
          have HFi := Aside0.mk (show Flips W.heap.size W wm W.heap.size A5 m5 c5 x AM nb cM A10 c10 lines (powerV x) (List.replicate nb false) from by
            have hk0 : Kept wb wm (fun _ => False) := (Kept.refl wb _).of_grown HGM.out (fun k e => by cases e)
            refine ⟨(HP.out.reel.below HBb.out).keptL hk0 (fun _ h => h.elim), ?_, rfl, by have h := HQM.out; simpa using h, ?_, HT.out.below HBM.out HN60.out.2, HBM.out⟩
            · have h := Flipped.start x.b
              rw [HNb.out] at h
              exact h
            · have h1 : Kd.string.R 9 wb W.heap.size (fun _ => True) (.slice A10 lines.length c10) lines := Kd.R_below (R_apart (Kd.R_mono HSu2.out (fun _ _ => trivial)) rfl (fun k cells hc => HP.out.kept.2 k (blk_lt hc) (fun hf => by
                obtain ⟨cs, t, h1, rfl | rfl⟩ := HRe2.out.blk k hf
                · exact type_ne hc h1 (show (9 : Nat) ≠ 5 by decide) rfl
                · exact type_ne hc h1 (show (9 : Nat) ≠ 70 by decide) rfl))) HBb.out
              exact R_apart h1 rfl (fun k cells hc => HGM.out.block k (blk_lt hc) (fun e => by cases e)))
          go_loopw [83] (fun v83 w2 => ∃ (k : Nat) (y : ReelV) (met : List Bool), k ≤ n2 ∧ v83 = .int .i64 k ∧ Aside0 (Flips W.heap.size W w2 W.heap.size A5 m5 c5 x AM nb cM A10 c10 lines y met)) (fun v83 _ => n2 - (intOf v83).toNat)
          case atStart => exact ⟨0, powerV x, _, Nat.zero_le _, rfl, HFi⟩
          case round => as_aux_lemma =>
            obtain ⟨j, y, met, hj, rfl, hfl⟩ := hrel
            by_cases hjn : j < n2
            · have i0 : (0 : Int) ≤ (j : Int) := by omega
              have i1 : (j : Int) < (n2 : Int) := by omega
              have HJ1 := Aside0.mk (wrap_step j (by have := HN2.out; omega))
              obtain ⟨⟨pa, pb⟩, hp⟩ : ∃ p, fl[j]? = some p := ⟨_, List.getElem?_eq_getElem (by have := HFl.out.1; omega)⟩
              obtain ⟨ad, hA2, g0, g1⟩ := HFl.out.2 j _ hp
              have hlt0 : ad.block < W.heap.size := by have h := World.block_lt_of_cell? _ _ g0; rwa [add_block] at h
              subst hA2
              have hbk : wr.heap[ad.block]? = W.heap[ad.block]? := hfl.out.bel.block _ hlt0
              replace g0 : wr.cell? (ad.add (j * 2)) = some (.int .i64 pa) := (World.cell?_of_block (by rw [add_block]; exact hbk)).trans g0
              replace g1 : wr.cell? (ad.add (j * 2 + 1)) = some (.int .i64 pb) := (World.cell?_of_block (by rw [add_block]; exact hbk)).trans g1
              rw [show ad.add (j * 2 + 1) = { block := (ad.add (j * 2)).block, off := (ad.add (j * 2)).off + 1 } from (Addr.add_add ad (j * 2) 1).symm] at g1
              clear hp hbk
              obtain ⟨wa, hwa⟩ : ∃ wa, wa = wr.alloc (.cells #[.int .i64 pa, .int .i64 pb] 48) := ⟨_, rfl⟩
              have hab : Below wr.heap.size wr wa := by rw [hwa]; exact below_alloc (Below.refl _ _) _
              have HFa := Aside0.mk (hfl.out.below hab HN60.out.2)
              have hnew : wa.heap[wr.heap.size]? = some (.cells #[.int .i64 pa, .int .i64 pb] 48) := by rw [hwa]; exact blk_new _ _
              have c0 : wa.cell? ⟨wr.heap.size, 0, none⟩ = some (.int .i64 pa) := (blk_cell hnew 0).trans rfl
              have c1 : wa.cell? ⟨wr.heap.size, 1, none⟩ = some (.int .i64 pb) := (blk_cell hnew 1).trans rfl
              by_cases hn0 : nb = 0
              · subst hn0
                clear c0 c1 hnew hab
                go_wp2_with (fail)
                rw [← hwa]
                clear hwa
                as_aux_lemma =>
                have HZ := HFa
                have HOe := Aside0.mk (show openM y.b = (lines, st) from (openM_congr (HZ.out.fl.decs HRs.out.code)).trans HRs.out.opens)
                go_wp2_with (first | (go_at_call 18; refine (libOpen_on HZ.out.reel HZ.out.off (HZ.out.fl.byt HRs.out.code) HZ.out.tabs).mono ?_; rintro e wo ⟨rfl, ⟨sgo, vjo, hlo⟩, _, hko, hbo⟩; rw [HOe.out] at hlo; have HLo := Aside0.mk hlo; have HSo := Aside0.mk (HZ.out.opened hko); have HBo := Aside0.mk (HZ.out.bel.trans hbo); clear hlo hko hbo) | (go_at_call 12; refine (journal_calls HLo.out).mono ?_; rintro e wJ2 ⟨⟨vJ2, rfl, hrJ2⟩, hbJ2⟩; obtain ⟨AJ2, cJ2, rfl⟩ := Kd.R_slice hrJ2; have HJ2 := Aside0.mk hrJ2; have HSJ2 := Aside0.mk (Kd.R_below HSo.out hbJ2); have HBJ2 := Aside0.mk (HBo.out.trans (hbJ2.mono HBo.out.size)); clear hrJ2 hbJ2) | (go_at_call 20; refine (equal_rows HJ2.out HSJ2.out (by have := HRs.out.few; omega) (by have := HRs.out.few; omega)).mono ?_; rintro e wq2 ⟨he, q2, rfl⟩; rw [show decide (lines = lines) = true from decide_eq_true rfl] at he; subst he; have HBq2 := Aside0.mk (HBJ2.out.trans ((drew_below wJ2 q2).mono HBJ2.out.size))) | (go_at_call 13; refine (awake_calls _ (HT.out.below HBq2.out HN60.out.2)).mono ?_; rintro e we ⟨rfl, hbe⟩; have HBe := Aside0.mk (HBq2.out.trans (hbe.mono HBq2.out.size)); clear hbe))
                go_ret
                exact ⟨rfl, HBe.out⟩
              · have hnz : ((nb : Int) == 0) = false := beq_eq_false_iff_ne.2 (by omega)
                go_wp2_with (fail)
                rw [← hwa]
                clear hwa
                have hnb5 := HNb5.out
                have hun : IntKind.u64.wrap (nb : Int) = (nb : Int) := by
                  have e : IntKind.u64.wrap (nb : Int) = (nb : Int) % 18446744073709551616 := rfl
                  rw [e]
                  omega
                obtain ⟨i, hi, hi2⟩ : ∃ i : Nat, wrap64 ((IntKind.u64.wrap pa).tmod (nb : Int)) = (i : Int) ∧ i < nb := by
                  have h0 : 0 ≤ IntKind.u64.wrap pa := by
                    have e : IntKind.u64.wrap pa = pa % 18446744073709551616 := rfl
                    rw [e]
                    omega
                  have h1 : 0 ≤ (IntKind.u64.wrap pa).tmod (nb : Int) := Int.tmod_nonneg _ h0
                  have h2 : (IntKind.u64.wrap pa).tmod (nb : Int) < (nb : Int) := Int.tmod_lt_of_pos _ (by omega)
                  refine ⟨((IntKind.u64.wrap pa).tmod (nb : Int)).toNat, ?_, by omega⟩
                  unfold wrap64
                  omega
                obtain ⟨bt, hbt, hbt2⟩ : ∃ b : Nat, wrap64 ((IntKind.u64.wrap pb).tmod 8) = (b : Int) ∧ b < 8 := by
                  have h0 : 0 ≤ IntKind.u64.wrap pb := by
                    have e : IntKind.u64.wrap pb = pb % 18446744073709551616 := rfl
                    rw [e]
                    omega
                  have h1 : 0 ≤ (IntKind.u64.wrap pb).tmod 8 := Int.tmod_nonneg _ h0
                  have h2 : (IntKind.u64.wrap pb).tmod 8 < 8 := Int.tmod_lt_of_pos _ (by decide)
                  refine ⟨((IntKind.u64.wrap pb).tmod 8).toNat, ?_, by omega⟩
                  unfold wrap64
                  omega
                obtain ⟨g, hAM⟩ : ∃ g, AM = some ⟨g, 0, none⟩ := by
                  obtain ⟨g, cap, e, _⟩ := Kd.R_form HFa.out.met (by have := HFa.out.fl.mlen; have := HNb.out; omega)
                  injection e with e _ _
                  exact ⟨g, e⟩
                subst hAM
                clear hnew hab hnb5
                go_quiet (fail)
                rw [hi, hbt]
                obtain ⟨w2, hw2⟩ : ∃ w, w = wa.drewN nq := ⟨_, rfl⟩
                have HF2 := Aside0.mk (show Flips W.heap.size W w2 W.heap.size A5 m5 c5 x (some ⟨g, 0, none⟩) nb cM A10 c10 lines y met by rw [hw2]; exact HFa.out.below (drew_below wa nq) HN60.out.2)
                rw [← hw2]
                clear hw2 c0 c1 hi hbt hun hnz
                have hcm := (Kd.R_celln false HF2.out.met (i : Int) (by omega) (by omega)).1
                rw [Int.toNat_natCast, show rdOf false met (i : Int) = met.getD i false from rfl] at hcm
                have hfz := (Kd.R_celln false HF2.out.met (i : Int) (by omega) (by omega)).2
                rw [Int.toNat_natCast] at hfz
                have j0 : (0 : Int) ≤ (i : Int) := by omega
                have j1 : (i : Int) < (nb : Int) := by omega
                have HI2 := Aside0.mk hi2
                have HB2 := Aside0.mk hbt2
                clear hi2 hbt2
                cases hm : met.getD i false with
                | true => as_aux_lemma =>
                  rw [hm] at hcm
                  clear hm
                  go_wp2_with (fail)
                  exact ⟨⟨j + 1, y, met, by omega, by rw [HJ1.out], HF2⟩, by rw [HJ1.out]; show n2 - (((j + 1 : Nat) : Int)).toNat < n2 - ((j : Nat) : Int).toNat; rw [Int.toNat_natCast, Int.toNat_natCast]; omega⟩
                | false => as_aux_lemma =>
                  obtain ⟨k1, k2⟩ := HF2.out.meet HN60.out.2 HNb.out HI2.out hm (k := (bt : Int)) (by omega) (by have := HB2.out; omega)
                  have K1 := Aside0.mk k1
                  have K2 := Aside0.mk k2
                  rw [hm] at hcm
                  clear hm k1 k2
                  go_wp2_with (go_at_call 23; refine (reel_flip K1.out (i : Int) (bt : Int)).mono ?_; rintro e wf ⟨⟨u, rfl⟩, ht⟩; have HFf := Aside0.mk (K2.out wf ht); clear ht)
                  exact ⟨⟨j + 1, _, _, by omega, by rw [HJ1.out], HFf⟩, by rw [HJ1.out]; show n2 - (((j + 1 : Nat) : Int)).toNat < n2 - ((j : Nat) : Int).toNat; rw [Int.toNat_natCast, Int.toNat_natCast]; omega⟩
            · as_aux_lemma =>
              have i1 : ¬ (j : Int) < (n2 : Int) := by omega
              have HZ := hfl
              have HOe := Aside0.mk (show openM y.b = (lines, st) from (openM_congr (HZ.out.fl.decs HRs.out.code)).trans HRs.out.opens)
              go_wp2_with (first | (go_at_call 18; refine (libOpen_on HZ.out.reel HZ.out.off (HZ.out.fl.byt HRs.out.code) HZ.out.tabs).mono ?_; rintro e wo ⟨rfl, ⟨sgo, vjo, hlo⟩, _, hko, hbo⟩; rw [HOe.out] at hlo; have HLo := Aside0.mk hlo; have HSo := Aside0.mk (HZ.out.opened hko); have HBo := Aside0.mk (HZ.out.bel.trans hbo); clear hlo hko hbo) | (go_at_call 12; refine (journal_calls HLo.out).mono ?_; rintro e wJ2 ⟨⟨vJ2, rfl, hrJ2⟩, hbJ2⟩; obtain ⟨AJ2, cJ2, rfl⟩ := Kd.R_slice hrJ2; have HJ2 := Aside0.mk hrJ2; have HSJ2 := Aside0.mk (Kd.R_below HSo.out hbJ2); have HBJ2 := Aside0.mk (HBo.out.trans (hbJ2.mono HBo.out.size)); clear hrJ2 hbJ2) | (go_at_call 20; refine (equal_rows HJ2.out HSJ2.out (by have := HRs.out.few; omega) (by have := HRs.out.few; omega)).mono ?_; rintro e wq2 ⟨he, q2, rfl⟩; rw [show decide (lines = lines) = true from decide_eq_true rfl] at he; subst he; have HBq2 := Aside0.mk (HBJ2.out.trans ((drew_below wJ2 q2).mono HBJ2.out.size))) | (go_at_call 13; refine (awake_calls _ (HT.out.below HBq2.out HN60.out.2)).mono ?_; rintro e we ⟨rfl, hbe⟩; have HBe := Aside0.mk (HBq2.out.trans (hbe.mono HBq2.out.size)); clear hbe))
              go_ret
              exact ⟨rfl, HBe.out⟩
        · as_aux_lemma =>
          have d1 : (res.err == 0) = false := beq_eq_false_iff_ne.2 he0
          have d2 : (res.err == 8) = false := beq_eq_false_iff_ne.2 he8
          have HE := Aside0.mk (And.intro he0 he8)
          clear he0 he8
          go_wp2_with (go_at_call 15; refine HDo.out.mono ?_; rintro e w6 ⟨rfl, ⟨sg', vj', A', m', c', l1, l2, l3, l4⟩, hb6⟩; have HX6 := Aside0.mk (And.intro l1 (And.intro l2 (And.intro l3 l4))); have HB6 := Aside0.mk (hbl.out.trans hb6); clear l1 l2 l3 l4 hb6)
          have hsame : res.lines = lines ∧ res.st = st ∧ res.reel = ⟨booksV lines, 20000, false, f⟩ := by
            have h := (libDo_burn lines st y f).2.2
            rw [← HRes.out] at h
            exact h HE.out.1 HE.out.2
          obtain ⟨e1, e2, e3⟩ := hsame
          have h6 := HX6.out
          rw [e1, e2, e3] at h6
          exact ⟨⟨k + 1, lines, st, f, sg', vj', A', m', c', by omega, by first | rfl | simp, ⟨by have := hfew.out; omega⟩, ⟨⟨hburn.out.reach, h6.1, h6.2.1, h6.2.2.1, h6.2.2.2⟩⟩, HB6⟩, by simp [intOf]; omega⟩
    · as_aux_lemma =>
      have i1 : ¬ (k : Int) < (n : Int) := by omega
      obtain ⟨x, hx⟩ : ∃ x, x = (⟨booksV lines, 20000, false, f⟩ : ReelV) := ⟨_, rfl⟩
      have hpart : x.b = booksV lines ++ [] := by rw [hx]; simp
      rw [← hx] at hburn
      have HRs := Aside0.mk (show Rest W.heap.size wr lg W.heap.size lines st x sg vj A5 m5 c5 _ from ⟨hburn.out, ⟨[], hpart, .inl rfl⟩, by have := hfew.out; omega⟩)
      obtain ⟨A10, c10, hv10⟩ := Kd.R_slice hburn.out.sure
      subst hv10
      have HBel := hbl
      clear hpart hx
      obtain ⟨nb, hnb⟩ : ∃ nb, x.b.length = nb := ⟨_, rfl⟩
      have HNb := Aside0.mk hnb
      have HNb5 := Aside0.mk (show nb ≤ 100000 by have := HRs.out.burn.reel.fine.len; have := HRs.out.burn.reel.fine.size1; omega)
      clear hnb
      go_wp2_with (first | (go_at_call 12; refine (journal_calls HRs.out.burn.lib).mono ?_; rintro e wj ⟨⟨vJ, rfl, hrJ⟩, hbJ⟩; obtain ⟨AJ, cJ, rfl⟩ := Kd.R_slice hrJ; have HJ := Aside0.mk hrJ; have HBJ := Aside0.mk hbJ; have HSu := Aside0.mk (Kd.R_below HRs.out.burn.sure hbJ); have HRe := Aside0.mk (HRs.out.burn.reel.below hbJ); clear hrJ hbJ) | (go_at_call 20; refine (equal_rows HJ.out HSu.out (by have := HRs.out.few; omega) (by have := HRs.out.few; omega)).mono ?_; rintro e wq ⟨he, q, rfl⟩; rw [show decide (lines = lines) = true from decide_eq_true rfl] at he; subst he; have HRe2 := Aside0.mk (HRe.out.below (drew_below wj q)); have HSu2 := Aside0.mk (Kd.R_below HSu.out (drew_below wj q)); have HBq := Aside0.mk (HBel.out.trans (HBJ.out.trans (drew_below wj q |>.mono HBJ.out.size) |>.mono HBel.out.size))) | (go_at_call 21; refine (reel_power HRe2.out).mono ?_; rintro e wp ⟨⟨u, rfl⟩, ht⟩; have HP := Aside0.mk ht; have HBp := Aside0.mk (HBq.out.trans ht.bel); clear ht) | (go_at_call 22; refine (bytes_fresh HP.out.reel).mono ?_; rintro e wb ⟨⟨vB, rfl, hrB⟩, hbB⟩; obtain ⟨AB, cB, hvB⟩ := Kd.R_slice hrB; rw [show (powerV x).b.length = nb from HNb.out] at hvB; subst hvB; have HBb := Aside0.mk hbB; have HBb2 := Aside0.mk (HBp.out.trans (hbB.mono HBp.out.size)); clear hrB hbB) | (refine gate_ (.makeSlice 47 (.tmp 79) (.tmp 79)) rfl ?_; go_loud (refine Kd.R_make Kd.bool (w0 := W) W.heap.size 4 rfl rfl 47 (.tmp 79) (.tmp 79) rfl (nb : Int) rfl rfl Tryz.underlying47 (.bool false) 1 info4 rfl (by decide) (by decide) false (ok := fun _ => True) (okp := fun _ => False) rfl (fun _ _ => trivial) trivial (by omega) (by have := HNb5.out; omega) HBb2.out HBb2.out.size ?_); intro vM wm hqM hbM hgM hatM; obtain ⟨AM, cM, hvM⟩ := Kd.R_slice hqM; rw [show (List.replicate (nb : Int).toNat false).length = nb by simp] at hvM; subst hvM; have HQM := Aside0.mk hqM; have HBM := Aside0.mk hbM; have HGM := Aside0.mk hgM; clear hqM hbM hgM hatM))
      have HFi := Aside0.mk (show Flips W.heap.size W wm W.heap.size A5 m5 c5 x AM nb cM A10 c10 lines (powerV x) (List.replicate nb false) from by
        have hk0 : Kept wb wm (fun _ => False) := (Kept.refl wb _).of_grown HGM.out (fun k e => by cases e)
        refine ⟨(HP.out.reel.below HBb.out).keptL hk0 (fun _ h => h.elim), ?_, rfl, by have h := HQM.out; simpa using h, ?_, HT.out.below HBM.out HN60.out.2, HBM.out⟩
        · have h := Flipped.start x.b
          rw [HNb.out] at h
          exact h
        · have h1 : Kd.string.R 9 wb W.heap.size (fun _ => True) (.slice A10 lines.length c10) lines := Kd.R_below (R_apart (Kd.R_mono HSu2.out (fun _ _ => trivial)) rfl (fun k cells hc => HP.out.kept.2 k (blk_lt hc) (fun hf => by
            obtain ⟨cs, t, h1, rfl | rfl⟩ := HRe2.out.blk k hf
            · exact type_ne hc h1 (show (9 : Nat) ≠ 5 by decide) rfl
            · exact type_ne hc h1 (show (9 : Nat) ≠ 70 by decide) rfl))) HBb.out
          exact R_apart h1 rfl (fun k cells hc => HGM.out.block k (blk_lt hc) (fun e => by cases e)))
      go_loopw [83] (fun v83 w2 => ∃ (k : Nat) (y : ReelV) (met : List Bool), k ≤ n2 ∧ v83 = .int .i64 k ∧ Aside0 (Flips W.heap.size W w2 W.heap.size A5 m5 c5 x AM nb cM A10 c10 lines y met)) (fun v83 _ => n2 - (intOf v83).toNat)
      case atStart => exact ⟨0, powerV x, _, Nat.zero_le _, rfl, HFi⟩
      case round => as_aux_lemma =>
        obtain ⟨j, y, met, hj, rfl, hfl⟩ := hrel
        by_cases hjn : j < n2
        · have i0 : (0 : Int) ≤ (j : Int) := by omega
          have i1 : (j : Int) < (n2 : Int) := by omega
          have HJ1 := Aside0.mk (wrap_step j (by have := HN2.out; omega))
          obtain ⟨⟨pa, pb⟩, hp⟩ : ∃ p, fl[j]? = some p := ⟨_, List.getElem?_eq_getElem (by have := HFl.out.1; omega)⟩
          obtain ⟨ad, hA2, g0, g1⟩ := HFl.out.2 j _ hp
          have hlt0 : ad.block < W.heap.size := by have h := World.block_lt_of_cell? _ _ g0; rwa [add_block] at h
          subst hA2
          have hbk : wr.heap[ad.block]? = W.heap[ad.block]? := hfl.out.bel.block _ hlt0
          replace g0 : wr.cell? (ad.add (j * 2)) = some (.int .i64 pa) := (World.cell?_of_block (by rw [add_block]; exact hbk)).trans g0
          replace g1 : wr.cell? (ad.add (j * 2 + 1)) = some (.int .i64 pb) := (World.cell?_of_block (by rw [add_block]; exact hbk)).trans g1
          rw [show ad.add (j * 2 + 1) = { block := (ad.add (j * 2)).block, off := (ad.add (j * 2)).off + 1 } from (Addr.add_add ad (j * 2) 1).symm] at g1
          clear hp hbk
          obtain ⟨wa, hwa⟩ : ∃ wa, wa = wr.alloc (.cells #[.int .i64 pa, .int .i64 pb] 48) := ⟨_, rfl⟩
          have hab : Below wr.heap.size wr wa := by rw [hwa]; exact below_alloc (Below.refl _ _) _
          have HFa := Aside0.mk (hfl.out.below hab HN60.out.2)
          have hnew : wa.heap[wr.heap.size]? = some (.cells #[.int .i64 pa, .int .i64 pb] 48) := by rw [hwa]; exact blk_new _ _
          have c0 : wa.cell? ⟨wr.heap.size, 0, none⟩ = some (.int .i64 pa) := (blk_cell hnew 0).trans rfl
          have c1 : wa.cell? ⟨wr.heap.size, 1, none⟩ = some (.int .i64 pb) := (blk_cell hnew 1).trans rfl
          by_cases hn0 : nb = 0
          · subst hn0
            clear c0 c1 hnew hab
            go_wp2_with (fail)
            rw [← hwa]
            clear hwa
            as_aux_lemma =>
            have HZ := HFa
            have HOe := Aside0.mk (show openM y.b = (lines, st) from (openM_congr (HZ.out.fl.decs HRs.out.code)).trans HRs.out.opens)
            go_wp2_with (first | (go_at_call 18; refine (libOpen_on HZ.out.reel HZ.out.off (HZ.out.fl.byt HRs.out.code) HZ.out.tabs).mono ?_; rintro e wo ⟨rfl, ⟨sgo, vjo, hlo⟩, _, hko, hbo⟩; rw [HOe.out] at hlo; have HLo := Aside0.mk hlo; have HSo := Aside0.mk (HZ.out.opened hko); have HBo := Aside0.mk (HZ.out.bel.trans hbo); clear hlo hko hbo) | (go_at_call 12; refine (journal_calls HLo.out).mono ?_; rintro e wJ2 ⟨⟨vJ2, rfl, hrJ2⟩, hbJ2⟩; obtain ⟨AJ2, cJ2, rfl⟩ := Kd.R_slice hrJ2; have HJ2 := Aside0.mk hrJ2; have HSJ2 := Aside0.mk (Kd.R_below HSo.out hbJ2); have HBJ2 := Aside0.mk (HBo.out.trans (hbJ2.mono HBo.out.size)); clear hrJ2 hbJ2) | (go_at_call 20; refine (equal_rows HJ2.out HSJ2.out (by have := HRs.out.few; omega) (by have := HRs.out.few; omega)).mono ?_; rintro e wq2 ⟨he, q2, rfl⟩; rw [show decide (lines = lines) = true from decide_eq_true rfl] at he; subst he; have HBq2 := Aside0.mk (HBJ2.out.trans ((drew_below wJ2 q2).mono HBJ2.out.size))) | (go_at_call 13; refine (awake_calls _ (HT.out.below HBq2.out HN60.out.2)).mono ?_; rintro e we ⟨rfl, hbe⟩; have HBe := Aside0.mk (HBq2.out.trans (hbe.mono HBq2.out.size)); clear hbe))
            go_ret
            exact ⟨rfl, HBe.out⟩
          · have hnz : ((nb : Int) == 0) = false := beq_eq_false_iff_ne.2 (by omega)
            go_wp2_with (fail)
            rw [← hwa]
            clear hwa
            have hnb5 := HNb5.out
            have hun : IntKind.u64.wrap (nb : Int) = (nb : Int) := by
              have e : IntKind.u64.wrap (nb : Int) = (nb : Int) % 18446744073709551616 := rfl
              rw [e]
              omega
            obtain ⟨i, hi, hi2⟩ : ∃ i : Nat, wrap64 ((IntKind.u64.wrap pa).tmod (nb : Int)) = (i : Int) ∧ i < nb := by
              have h0 : 0 ≤ IntKind.u64.wrap pa := by
                have e : IntKind.u64.wrap pa = pa % 18446744073709551616 := rfl
                rw [e]
                omega
              have h1 : 0 ≤ (IntKind.u64.wrap pa).tmod (nb : Int) := Int.tmod_nonneg _ h0
              have h2 : (IntKind.u64.wrap pa).tmod (nb : Int) < (nb : Int) := Int.tmod_lt_of_pos _ (by omega)
              refine ⟨((IntKind.u64.wrap pa).tmod (nb : Int)).toNat, ?_, by omega⟩
              unfold wrap64
              omega
            obtain ⟨bt, hbt, hbt2⟩ : ∃ b : Nat, wrap64 ((IntKind.u64.wrap pb).tmod 8) = (b : Int) ∧ b < 8 := by
              have h0 : 0 ≤ IntKind.u64.wrap pb := by
                have e : IntKind.u64.wrap pb = pb % 18446744073709551616 := rfl
                rw [e]
                omega
              have h1 : 0 ≤ (IntKind.u64.wrap pb).tmod 8 := Int.tmod_nonneg _ h0
              have h2 : (IntKind.u64.wrap pb).tmod 8 < 8 := Int.tmod_lt_of_pos _ (by decide)
              refine ⟨((IntKind.u64.wrap pb).tmod 8).toNat, ?_, by omega⟩
              unfold wrap64
              omega
            obtain ⟨g, hAM⟩ : ∃ g, AM = some ⟨g, 0, none⟩ := by
              obtain ⟨g, cap, e, _⟩ := Kd.R_form HFa.out.met (by have := HFa.out.fl.mlen; have := HNb.out; omega)
              injection e with e _ _
              exact ⟨g, e⟩
            subst hAM
            clear hnew hab hnb5
            go_quiet (fail)
            rw [hi, hbt]
            obtain ⟨w2, hw2⟩ : ∃ w, w = wa.drewN nq := ⟨_, rfl⟩
            have HF2 := Aside0.mk (show Flips W.heap.size W w2 W.heap.size A5 m5 c5 x (some ⟨g, 0, none⟩) nb cM A10 c10 lines y met by rw [hw2]; exact HFa.out.below (drew_below wa nq) HN60.out.2)
            rw [← hw2]
            clear hw2 c0 c1 hi hbt hun hnz
            have hcm := (Kd.R_celln false HF2.out.met (i : Int) (by omega) (by omega)).1
            rw [Int.toNat_natCast, show rdOf false met (i : Int) = met.getD i false from rfl] at hcm
            have hfz := (Kd.R_celln false HF2.out.met (i : Int) (by omega) (by omega)).2
            rw [Int.toNat_natCast] at hfz
            have j0 : (0 : Int) ≤ (i : Int) := by omega
            have j1 : (i : Int) < (nb : Int) := by omega
            have HI2 := Aside0.mk hi2
            have HB2 := Aside0.mk hbt2
            clear hi2 hbt2
            cases hm : met.getD i false with
            | true => as_aux_lemma =>
              rw [hm] at hcm
              clear hm
              go_wp2_with (fail)
              exact ⟨⟨j + 1, y, met, by omega, by rw [HJ1.out], HF2⟩, by rw [HJ1.out]; show n2 - (((j + 1 : Nat) : Int)).toNat < n2 - ((j : Nat) : Int).toNat; rw [Int.toNat_natCast, Int.toNat_natCast]; omega⟩
            | false => as_aux_lemma =>
              obtain ⟨k1, k2⟩ := HF2.out.meet HN60.out.2 HNb.out HI2.out hm (k := (bt : Int)) (by omega) (by have := HB2.out; omega)
              have K1 := Aside0.mk k1
              have K2 := Aside0.mk k2
              rw [hm] at hcm
              clear hm k1 k2
              go_wp2_with (go_at_call 23; refine (reel_flip K1.out (i : Int) (bt : Int)).mono ?_; rintro e wf ⟨⟨u, rfl⟩, ht⟩; have HFf := Aside0.mk (K2.out wf ht); clear ht)
              exact ⟨⟨j + 1, _, _, by omega, by rw [HJ1.out], HFf⟩, by rw [HJ1.out]; show n2 - (((j + 1 : Nat) : Int)).toNat < n2 - ((j : Nat) : Int).toNat; rw [Int.toNat_natCast, Int.toNat_natCast]; omega⟩
        · as_aux_lemma =>
          have i1 : ¬ (j : Int) < (n2 : Int) := by omega
          have HZ := hfl
          have HOe := Aside0.mk (show openM y.b = (lines, st) from (openM_congr (HZ.out.fl.decs HRs.out.code)).trans HRs.out.opens)
          go_wp2_with (first | (go_at_call 18; refine (libOpen_on HZ.out.reel HZ.out.off (HZ.out.fl.byt HRs.out.code) HZ.out.tabs).mono ?_; rintro e wo ⟨rfl, ⟨sgo, vjo, hlo⟩, _, hko, hbo⟩; rw [HOe.out] at hlo; have HLo := Aside0.mk hlo; have HSo := Aside0.mk (HZ.out.opened hko); have HBo := Aside0.mk (HZ.out.bel.trans hbo); clear hlo hko hbo) | (go_at_call 12; refine (journal_calls HLo.out).mono ?_; rintro e wJ2 ⟨⟨vJ2, rfl, hrJ2⟩, hbJ2⟩; obtain ⟨AJ2, cJ2, rfl⟩ := Kd.R_slice hrJ2; have HJ2 := Aside0.mk hrJ2; have HSJ2 := Aside0.mk (Kd.R_below HSo.out hbJ2); have HBJ2 := Aside0.mk (HBo.out.trans (hbJ2.mono HBo.out.size)); clear hrJ2 hbJ2) | (go_at_call 20; refine (equal_rows HJ2.out HSJ2.out (by have := HRs.out.few; omega) (by have := HRs.out.few; omega)).mono ?_; rintro e wq2 ⟨he, q2, rfl⟩; rw [show decide (lines = lines) = true from decide_eq_true rfl] at he; subst he; have HBq2 := Aside0.mk (HBJ2.out.trans ((drew_below wJ2 q2).mono HBJ2.out.size))) | (go_at_call 13; refine (awake_calls _ (HT.out.below HBq2.out HN60.out.2)).mono ?_; rintro e we ⟨rfl, hbe⟩; have HBe := Aside0.mk (HBq2.out.trans (hbe.mono HBq2.out.size)); clear hbe))
          go_ret
          exact ⟨rfl, HBe.out⟩
end
end Go.Proofs.YtoeeipkiadbnpaaGreatDoor.Lib10
end
