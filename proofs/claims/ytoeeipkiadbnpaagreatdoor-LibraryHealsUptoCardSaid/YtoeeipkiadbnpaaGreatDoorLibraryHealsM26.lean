/- Texts that the proof of LibraryHeals needs, put together in build order by this session's program (wip/tools/claimtrim.py). -/
import Derived.Test.YtoeeipkiadbnpaaGreatDoorLibraryHealsM23
import Derived.Test.YtoeeipkiadbnpaaGreatDoorLibraryHealsM24
import Derived.Test.YtoeeipkiadbnpaaGreatDoorLibraryHealsM21
import Derived.Test.YtoeeipkiadbnpaaGreatDoorLibraryHealsM25
import Derived.StillTailTactics
section
namespace Go.Proofs.YtoeeipkiadbnpaaGreatDoor.Lib10
open Go.RowKit Go.Proofs.YtoeeipkiadbnpaaGreatDoorW.PrintWords Go.Proofs.YtoeeipkiadbnpaaGreatDoorW.PrintLast Go.Proofs.YtoeeipkiadbnpaaGreatDoorW.PrintMore
set_option linter.unusedVariables false
section
set_option maxRecDepth 100000
set_option maxHeartbeats 2000000
end
end Go.Proofs.YtoeeipkiadbnpaaGreatDoor.Lib10
end

section
namespace Go.Proofs.YtoeeipkiadbnpaaGreatDoor.Lib10
open Go.RowKit Go.Proofs.YtoeeipkiadbnpaaGreatDoorW.PrintWords Go.Proofs.YtoeeipkiadbnpaaGreatDoorW.PrintLast Go.Proofs.YtoeeipkiadbnpaaGreatDoorW.PrintMore
set_option linter.unusedVariables false
variable {B : Nat}
abbrev nl : ByteArray := ⟨#[10]⟩
section
set_option maxRecDepth 100000
set_option maxHeartbeats 2000000
end
end Go.Proofs.YtoeeipkiadbnpaaGreatDoor.Lib10
end

section
namespace Go.Proofs.YtoeeipkiadbnpaaGreatDoor.Lib10
open Go.RowKit Go.Proofs.YtoeeipkiadbnpaaGreatDoorW.PrintWords Go.Proofs.YtoeeipkiadbnpaaGreatDoorW.PrintLast Go.Proofs.YtoeeipkiadbnpaaGreatDoorW.PrintMore
set_option linter.unusedVariables false
variable {B : Nat}
def runS (p : List ByteArray × St) (line : ByteArray) : List ByteArray × St := ((libDoV (mkReel 20000 p.1) p.1 p.2 line).lines, (libDoV (mkReel 20000 p.1) p.1 p.2 line).st)
/-- What doing lines leaves. -/
def runs (l : List ByteArray) : List ByteArray × St := l.foldl runS ([], St.begin)
theorem runs_take {l : List ByteArray} {k : Nat} {y : ByteArray} (h : l[k]? = some y) : runs (l.take (k + 1)) = runS (runs (l.take k)) y := by
  unfold runs
  rw [List.take_add_one, h, Option.toList_some, List.foldl_append]
  rfl
theorem runS_cases (p : List ByteArray × St) (y : ByteArray) : (∃ er, er ≠ 0 ∧ libDoV (mkReel 20000 p.1) p.1 p.2 y = ⟨ByteArray.empty, er, mkReel 20000 p.1, p.1, p.2⟩ ∧ runS p y = p) ∨
    ((doS p.2 y).1 = 0 ∧ ((booksV p.1).length : Int) + ((writtenV y).length : Int) ≤ 20000 ∧ libDoV (mkReel 20000 p.1) p.1 p.2 y = ⟨headW y, 0, mkReel 20000 (p.1 ++ [y]), p.1 ++ [y], (doS p.2 y).2⟩ ∧ runS p y = (p.1 ++ [y], (doS p.2 y).2)) := by
  unfold runS
  rw [libDo_run]
  by_cases h1 : (doS p.2 y).1 ≠ 0
  · rw [if_pos h1]; exact .inl ⟨_, h1, rfl, rfl⟩
  · rw [if_neg h1]
    by_cases h2 : (20000 : Int) < ((booksV p.1).length : Int) + ((writtenV y).length : Int)
    · rw [if_pos h2]; exact .inl ⟨7, by decide, rfl, rfl⟩
    · rw [if_neg h2]; exact .inr ⟨by simpa using h1, by omega, rfl, rfl⟩
theorem runs_inv : ∀ (l : List ByteArray), Reach (runs l).1 (runs l).2 ∧ (booksV (runs l).1).length ≤ 20000 ∧ (runs l).1.length ≤ l.length := by
  suffices h : ∀ (r : List ByteArray), Reach (runs r.reverse).1 (runs r.reverse).2 ∧ (booksV (runs r.reverse).1).length ≤ 20000 ∧ (runs r.reverse).1.length ≤ r.reverse.length by
    intro l
    have := h l.reverse
    rwa [List.reverse_reverse] at this
  intro r
  induction r with
  | nil => exact ⟨Reach.nil, by decide, Nat.le_refl _⟩
  | cons y r ih =>
    obtain ⟨h1, h2, h3⟩ := ih
    have e : runs (y :: r).reverse = runS (runs r.reverse) y := by unfold runs; rw [List.reverse_cons, List.foldl_append]; rfl
    rw [e]
    rcases runS_cases (runs r.reverse) y with ⟨er, _, _, e2⟩ | ⟨h4, h5, _, e2⟩
    · rw [e2]; exact ⟨h1, h2, by simp at h3 ⊢; omega⟩
    · rw [e2]
      refine ⟨h1.snoc h4, ?_, by simp at h3 ⊢; omega⟩
      show (booksV ((runs r.reverse).1 ++ [y])).length ≤ 20000
      rw [booksV_snoc, List.length_append]
      omega
/-- A journal done anew leaves itself. -/
theorem runs_again {lines : List ByteArray} {st : St} (h : Reach lines st) (hf : (booksV lines).length ≤ 20000) : runs lines = (lines, st) := by
  induction h with
  | nil => rfl
  | @snoc lines st line hr h0 ih =>
    rw [booksV_snoc, List.length_append] at hf
    have e : runs (lines ++ [line]) = runS (runs lines) line := by unfold runs; rw [List.foldl_append]; rfl
    rw [e, ih (by omega)]
    rcases runS_cases (lines, st) line with ⟨er, h1, h2, _⟩ | ⟨_, _, _, e2⟩
    · exfalso
      rw [libDo_run, if_neg (by simpa using h0), if_neg (by show ¬ _; simp only; omega)] at h2
      injection h2 with _ h2
      exact h1 h2.symm
    · exact e2
theorem take_min60 (l : List ByteArray) : l.take 60 = l.take (min l.length 60) := by
  rcases Nat.le_total l.length 60 with h | h
  · rw [Nat.min_eq_left h, List.take_of_length_le h, List.take_of_length_le (Nat.le_refl _)]
  · rw [Nat.min_eq_right h]
/-- What opened answers. -/
def OpenedEnd2 (W : World) (l : List ByteArray) (e : Ending) (w' : World) : Prop := ∃ lg, e = .returned (.tuple #[ptr lg, ptr W.heap.size, .bool true]) ∧ Ran W.heap.size w' lg W.heap.size (runs (l.take 60)).1 (runs (l.take 60)).2 ∧ Below W.heap.size W w'
section
set_option maxRecDepth 100000
set_option maxHeartbeats 2000000
theorem opened_runs {W : World} {A : Option Addr} {c : Nat} {l : List ByteArray} (hC : Kd.string.C W A l.length l) (hc : l.length ≤ c) (hs : ∀ x ∈ l, x.size < 4294967281) (hT : Tabs W) : Calls Tryz.prog 11 #[.slice A l.length c] W (OpenedEnd2 W l) := by
  have HN := Aside0.mk (new_ran hT)
  have HC := Aside0.mk hC
  have HS := Aside0.mk hs
  have HT := Aside0.mk hT
  obtain ⟨n, hn⟩ : ∃ n, n = min l.length 60 := ⟨_, rfl⟩
  have hmin : min (l.length : Int) 60 = (n : Int) := by omega
  have HNl := Aside0.mk (show n ≤ l.length by omega)
  have h60 : n ≤ 60 := by omega
  have HTk := Aside0.mk (show l.take 60 = l.take n by rw [hn]; exact take_min60 l)
  clear hC hs hT hn
  go_enter Tryz.func11, Tryz.ntmps11
  go_wp2_with (first | (go_at_call 17; refine HN.out.mono ?_; rintro e w1 ⟨rfl, hb1, hlt1, hop⟩; have HB1 := Aside0.mk hb1; have HOp := Aside0.mk hop; clear hb1 hlt1 hop) | (go_at_call 18; refine HOp.out.mono ?_; rintro e w2 ⟨lg, rfl, hrn, hb2⟩; have HRn := Aside0.mk hrn; have HB2 := Aside0.mk hb2; clear hrn hb2))
  clear hmin
  go_loopw [30] (fun v30 wr => ∃ (k : Nat) (lines : List ByteArray) (st : St), k ≤ n ∧ v30 = .int .i64 k ∧ Aside0 (Ran W.heap.size wr lg W.heap.size lines st) ∧ Aside0 (Below W.heap.size W wr) ∧ Aside0 (runs (l.take k) = (lines, st))) (fun v30 _ => n - (intOf v30).toNat)
  case atStart => exact ⟨0, [], St.begin, Nat.zero_le _, rfl, HRn, HB2, ⟨rfl⟩⟩
  case round =>
    obtain ⟨k, lines, st, hk, rfl, hrn, hbl, hrr⟩ := hrel
    by_cases hlt : k < n
    · have i0 : (0 : Int) ≤ (k : Int) := by omega
      have i1 : (k : Int) < (n : Int) := by omega
      have hkl : k < l.length := by have := HNl.out; omega
      obtain ⟨y, hy⟩ : ∃ y, l[k]? = some y := ⟨_, List.getElem?_eq_getElem hkl⟩
      have HSy := Aside0.mk (HS.out y (List.mem_of_getElem? hy))
      obtain ⟨ad, he, hc⟩ := Kd.at_string (Kd.C_below HC.out hbl.out) k i0 (by omega)
      cases he
      have h1 : rdOf ByteArray.empty l (k : Int) = y := by
        unfold rdOf
        rw [Int.toNat_natCast, List.getD_eq_getElem?_getD, hy]
        rfl
      rw [h1, Int.toNat_natCast] at hc
      have HDo := Aside0.mk (hrn.out.do (HT.out.below hbl.out HT.out.low) HSy.out)
      have HY := Aside0.mk hy
      clear h1 hy
      replace i0 := eq_true i0
      replace i1 := eq_true i1
      go_wp2_with (go_at_call 15; refine HDo.out.mono ?_; rintro e w6 ⟨rfl, hr6, hb6⟩; have HR6 := Aside0.mk hr6; have HB6 := Aside0.mk (hbl.out.trans hb6); clear hr6 hb6)
      exact ⟨⟨k + 1, _, _, by omega, by first | rfl | simp, HR6, HB6, ⟨by rw [runs_take HY.out, hrr.out]; rfl⟩⟩, by simp [intOf]; omega⟩
    · have i1 : ¬ (k : Int) < (n : Int) := by omega
      go_wp2_with fail
      go_ret3
      obtain rfl : k = n := by omega
      refine ⟨lg, rfl, ?_, hbl.out⟩
      rw [HTk.out, hrr.out]
      exact hrn.out
theorem ran_journal {w : World} {lg rg : Nat} {lines : List ByteArray} {st : St} (h : Ran B w lg rg lines st) : Calls Tryz.prog 12 #[ptr lg] w fun e w' => (∃ A c, e = .returned (.slice A lines.length c) ∧ Kd.string.R 9 w' w.heap.size (fun j => w.heap.size ≤ j) (.slice A lines.length c) lines) ∧ Below w.heap.size w w' := by
  obtain ⟨sg, vj, A, m, c, h1, h2⟩ := h.at_
  refine (journal_calls h1).mono ?_
  rintro e w' ⟨⟨v, rfl, hr⟩, hb⟩
  obtain ⟨A, c, rfl⟩ := Kd.R_slice hr
  exact ⟨⟨A, c, rfl, hr⟩, hb⟩
theorem ran_bytes {w : World} {lg rg : Nat} {lines : List ByteArray} {st : St} (h : Ran B w lg rg lines st) : Calls Tryz.prog 22 #[ptr rg] w fun e w' => (∃ A c, e = .returned (.slice A (booksV lines).length c) ∧ (Kd.int .u8).R 5 w' w.heap.size (fun j => w.heap.size ≤ j) (.slice A (booksV lines).length c) (booksV lines)) ∧ Below w.heap.size w w' := by
  obtain ⟨sg, vj, A, m, c, h1, h2⟩ := h.at_
  refine (bytes_fresh h2).mono ?_
  rintro e w' ⟨⟨v, rfl, hr⟩, hb⟩
  obtain ⟨A, c, rfl⟩ := Kd.R_slice hr
  exact ⟨⟨A, c, rfl, hr⟩, hb⟩
theorem LibS.lower {B' : Nat} {w : World} {lg sg rg : Nat} {vj : Value} {lines : List ByteArray} {st : St} (h : LibS B' w lg sg rg vj lines st) (hb : B ≤ B') : LibS B w lg sg rg vj lines st :=
  ⟨h.cells, Nat.le_trans hb h.low, Kd.R_lower h.jr hb, h.sat.mono (fun k hk => Nat.le_trans hb hk), h.good, h.short, h.bk⟩
theorem Ran.few {w : World} {lg rg : Nat} {lines : List ByteArray} {st : St} (h : Ran B w lg rg lines st) : lines.length ≤ 1000000 := by
  obtain ⟨sg, vj, A, m, c, h1, h2⟩ := h.at_
  exact h1.few
theorem Ran.short {w : World} {lg rg : Nat} {lines : List ByteArray} {st : St} (h : Ran B w lg rg lines st) : ∀ x ∈ lines, x.size < 4294967281 := by
  obtain ⟨sg, vj, A, m, c, h1, h2⟩ := h.at_
  exact fun x hx => by have := h1.short x hx; omega
end
end Go.Proofs.YtoeeipkiadbnpaaGreatDoor.Lib10
end

section
namespace Go.Proofs.YtoeeipkiadbnpaaGreatDoor.Lib10
open Go.RowKit Go.Proofs.YtoeeipkiadbnpaaGreatDoorW.PrintWords Go.Proofs.YtoeeipkiadbnpaaGreatDoorW.PrintLast Go.Proofs.YtoeeipkiadbnpaaGreatDoorW.PrintMore
set_option linter.unusedVariables false
variable {B : Nat}
/-- Writing the books anew: how many bytes were put, the error, the reel. -/
def healV : List Int → Nat → ReelV → Int → Int × Int × ReelV
  | [], _, x, n => (n, 0, x)
  | b :: bs, i, x, n => if x.b.getD i 0 = b then healV bs (i + 1) x n else if (putV x (i : Int) b).1 = 0 then healV bs (i + 1) (putV x (i : Int) b).2 (n + 1) else (0, (putV x (i : Int) b).1, (putV x (i : Int) b).2)
theorem putV_in {x : ReelV} {i : Nat} {b : Int} (ho : x.off = false) (hi : i < x.b.length) : putV x (i : Int) b = if x.fuse = 0 then (8, { x with off := true }) else (0, { x with fuse := less x.fuse, b := x.b.set i b }) := by
  unfold putV
  rw [if_neg (by rw [ho]; decide), if_neg (by omega), Int.toNat_natCast]
/-- At how many places two rows differ. -/
def diffs : List Int → List Int → Nat
  | b :: bs, y :: ys => (if y = b then 0 else 1) + diffs bs ys
  | _, _ => 0
theorem diffs_self : ∀ l : List Int, diffs l l = 0
  | [] => rfl
  | b :: l => by rw [diffs, if_pos rfl, diffs_self l]
theorem drop_set_next (l : List Int) (i : Nat) (v : Int) : (l.set i v).drop (i + 1) = l.drop (i + 1) := by
  rw [List.drop_set_of_lt (by omega)]
theorem healV_free : ∀ (bs : List Int) (i : Nat) (x : ReelV) (n : Int), x.off = false → x.fuse = -1 → i + bs.length = x.b.length → healV bs i x n = (n + (diffs bs (x.b.drop i) : Int), 0, { x with b := x.b.take i ++ bs })
  | [], i, x, n, ho, hf, hl => by
    have e : x.b.take i = x.b := List.take_of_length_le (by simp at hl; omega)
    rw [healV, List.append_nil, e]
    simp [diffs]
  | b :: bs, i, x, n, ho, hf, hl => by
    have hi : i < x.b.length := by simp at hl; omega
    have hd : x.b.drop i = x.b[i] :: x.b.drop (i + 1) := List.drop_eq_getElem_cons hi
    have hg : x.b.getD i 0 = x.b[i] := by rw [List.getD_eq_getElem?_getD, List.getElem?_eq_getElem hi]; rfl
    have ht : x.b.take (i + 1) = x.b.take i ++ [x.b[i]] := (List.take_append_getElem hi).symm
    rw [healV, hg]
    by_cases hx : x.b[i] = b
    · rw [if_pos hx, healV_free bs (i + 1) x n ho hf (by simp at hl ⊢; omega), hd, diffs, if_pos hx, ht, hx, List.append_assoc]
      simp
    · have hnz : ¬ x.fuse = 0 := by rw [hf]; decide
      rw [if_neg hx, putV_in ho hi, if_neg hnz, if_pos rfl]
      have hl1 : less x.fuse = -1 := by rw [hf]; rfl
      rw [healV_free bs (i + 1) { x with fuse := less x.fuse, b := x.b.set i b } (n + 1) ho hl1 (by simp at hl ⊢; omega)]
      have e1 : (x.b.set i b).take (i + 1) = x.b.take i ++ [b] := by
        rw [List.take_set, ht, List.set_append_right _ _ (by simp; omega)]
        have : i - (x.b.take i).length = 0 := by simp; omega
        rw [this]
        rfl
      rw [hd, diffs, if_neg hx]
      show (n + 1 + ((diffs bs ((x.b.set i b).drop (i + 1)) : Nat) : Int), 0, _) = _
      rw [drop_set_next]
      show (_, _, ({ x with fuse := less x.fuse, b := (x.b.set i b).take (i + 1) ++ bs } : ReelV)) = _
      rw [e1, hl1, ← hf, List.append_assoc]
      simp
      omega
theorem healV_fuse : ∀ (bs : List Int) (i : Nat) (x : ReelV) (n : Int) (f : Nat), x.off = false → x.fuse = f → i + bs.length = x.b.length → f < diffs bs (x.b.drop i) →
    ∃ b', healV bs i x n = (0, 8, { x with b := b', off := true, fuse := 0 }) ∧ b'.length = x.b.length ∧ diffs bs (b'.drop i) + f = diffs bs (x.b.drop i) ∧ b'.take i = x.b.take i
  | [], i, x, n, f, ho, hf, hl, hd => by simp [diffs] at hd
  | b :: bs, i, x, n, f, ho, hf, hl, hdf => by
    have hi : i < x.b.length := by simp at hl; omega
    have hd : x.b.drop i = x.b[i] :: x.b.drop (i + 1) := List.drop_eq_getElem_cons hi
    have hg : x.b.getD i 0 = x.b[i] := by rw [List.getD_eq_getElem?_getD, List.getElem?_eq_getElem hi]; rfl
    have split : ∀ (b' : List Int) (u : Int), b'.length = x.b.length → b'.take (i + 1) = x.b.take i ++ [u] → b'.drop i = u :: b'.drop (i + 1) ∧ b'.take i = x.b.take i := fun b' u h1 h2 => by
      have hi' : i < b'.length := by omega
      have e1 : b'.take (i + 1) = b'.take i ++ [b'[i]] := (List.take_append_getElem hi').symm
      rw [e1] at h2
      have h3 := List.append_inj h2 (by simp; omega)
      have h4 : b'[i] = u := by simpa using h3.2
      exact ⟨by rw [List.drop_eq_getElem_cons hi', h4], h3.1⟩
    rw [healV, hg]
    rw [hd, diffs] at hdf ⊢
    by_cases hx : x.b[i] = b
    · rw [if_pos hx] at hdf ⊢
      rw [if_pos hx]
      obtain ⟨b', h1, h2, h3, h4⟩ := healV_fuse bs (i + 1) x n f ho hf (by simp at hl ⊢; omega) (by omega)
      obtain ⟨k1, k2⟩ := split b' x.b[i] h2 (by rw [h4]; exact (List.take_append_getElem hi).symm)
      refine ⟨b', h1, h2, ?_, k2⟩
      rw [k1, diffs, if_pos hx]
      omega
    · rw [if_neg hx] at hdf ⊢
      rw [if_neg hx, putV_in ho hi]
      by_cases hz : x.fuse = 0
      · rw [if_pos hz, if_neg (show ¬ (8 : Int) = 0 by decide)]
        obtain rfl : f = 0 := by omega
        refine ⟨x.b, ?_, rfl, ?_, rfl⟩
        · show ((0 : Int), (8 : Int), ({ x with off := true } : ReelV)) = _
          rw [← hz]
        · rw [hd, diffs, if_neg hx]; rfl
      · rw [if_neg hz, if_pos rfl]
        have hl1 : less x.fuse = ((f - 1 : Nat) : Int) := by unfold less; rw [hf]; split <;> omega
        obtain ⟨b', h1, h2, h3, h4⟩ := healV_fuse bs (i + 1) { x with fuse := less x.fuse, b := x.b.set i b } (n + 1) (f - 1) ho hl1 (by simp at hl ⊢; omega) (by show f - 1 < diffs bs ((x.b.set i b).drop (i + 1)); rw [drop_set_next]; omega)
        have e1 : (x.b.set i b).take (i + 1) = x.b.take i ++ [b] := by
          rw [List.take_set, (List.take_append_getElem hi).symm, List.set_append_right _ _ (by simp; omega)]
          have : i - (x.b.take i).length = 0 := by simp; omega
          rw [this]
          rfl
        obtain ⟨k1, k2⟩ := split b' b (by simpa using h2) (by rw [h4]; exact e1)
        refine ⟨b', h1, by simpa using h2, ?_, k2⟩
        rw [k1, diffs, if_pos rfl]
        have h3' : diffs bs (b'.drop (i + 1)) + (f - 1) = diffs bs ((x.b.set i b).drop (i + 1)) := h3
        rw [drop_set_next] at h3'
        omega
/-- Within Heal. -/
structure HealAt (B : Nat) (W w : World) (lg sg rg : Nat) (vj : Value) (lines : List ByteArray) (st : St) (A : Option Addr) (m c : Nat) (x : ReelV) (vb : Value) (bk : List Int) : Prop where
  reel : ReelIs B w rg A m c x
  off : x.off = false
  lib : LibS B w lg sg rg vj lines st
  row : (Kd.int .u8).R 5 w W.heap.size (fun j => W.heap.size ≤ j) vb bk
  kept : Kept W w (RF rg A m c)
  bel : Below B W w
theorem HealAt.put {W w w' : World} {lg sg rg : Nat} {vj : Value} {lines : List ByteArray} {st : St} {A : Option Addr} {m c : Nat} {x x' : ReelV} {vb : Value} {bk : List Int} (h : HealAt B W w lg sg rg vj lines st A m c x vb bk) (hF : ∀ k, RF rg A m c k → k < W.heap.size) (ht : ReelTo B w rg A m c m x' w') (ho : x'.off = false) : HealAt B W w' lg sg rg vj lines st A m c x' vb bk :=
  ⟨ht.reel, ho, h.lib.kept ht.kept (fun k hk => h.reel.blk k hk), R_same h.row rfl (fun k hk hlt => ht.kept.2 k hlt (fun hf => by have := hF k hf; omega)), h.kept.then_ ht.kept (fun j hj => .inl hj), h.bel.trans ht.bel⟩
section
set_option maxRecDepth 100000
set_option maxHeartbeats 2000000
theorem heal_calls {W : World} {lg sg rg : Nat} {vj : Value} {lines : List ByteArray} {st : St} {A : Option Addr} {m c : Nat} {x : ReelV} (hL : LibS B W lg sg rg vj lines st) (hR : ReelIs B W rg A m c x) (ho : x.off = false) (hlen : (booksV lines).length ≤ x.b.length) :
    Calls Tryz.prog 30 #[ptr lg] W fun e w' => e = .returned (.tuple #[.int .i64 (healV (booksV lines) 0 x 0).1, .int .i64 (healV (booksV lines) 0 x 0).2.1]) ∧ ReelTo B W rg A m c m (healV (booksV lines) 0 x 0).2.2 w' := by
  obtain ⟨A4, c4, rfl⟩ := Kd.R_slice hL.jr
  have HU := Aside0.mk (unmade_calls hL.cells)
  have hbe := behind_on (hL.read hR) hR.fine.s0 ho hL.short hL.few
  rw [if_neg (by rw [hR.len.1]; omega)] at hbe
  have HBe := Aside0.mk hbe
  have HL := Aside0.mk hL
  have HR := Aside0.mk (And.intro hR ho)
  have HF := Aside0.mk (fun k hk => (hR.own k hk).2)
  have hm := hR.len.1
  have hmc := hR.len.2
  have hBW : B ≤ W.heap.size := by have := hR.low; have := blk_lt hR.rc; omega
  have HBW := Aside0.mk hBW
  have q2 : W.cell? ⟨lg, 2, none⟩ = some (.slice A4 lines.length c4) := (blk_cell hL.cells 2).trans rfl
  obtain ⟨bk, hbk⟩ : ∃ bk, bk = booksV lines := ⟨_, rfl⟩
  have HBk := Aside0.mk (show booksV lines = bk from hbk.symm)
  obtain ⟨r, hr⟩ : ∃ r, healV (booksV lines) 0 x 0 = r := ⟨_, rfl⟩
  have HRs := Aside0.mk hr
  have h1m : m ≤ 100000 := by have := hR.fine.len; have := hR.fine.size1; omega
  rw [hr]
  rw [HBk.out] at HRs hlen
  have HM := Aside0.mk hm
  clear hr hbe hL hR ho hbk hm
  go_enter Tryz.func30, Tryz.ntmps30
  go_wp2_with (first | (go_at_call 35; refine HU.out.mono ?_; rintro e w' ⟨rfl, rfl⟩) | (go_at_call 41; refine HBe.out.mono ?_; rintro e w1 ⟨rfl, hb⟩; have q2b := cell_below q2 hb; have HB1 := Aside0.mk hb; have HL1 := Aside0.mk (HL.out.below hb); clear hb) | (go_at_call 42; refine (books_calls (Kd.R_reads' HL1.out.jr).2.2 rfl HL1.out.short HL1.out.few).mono ?_; rintro e w2 ⟨⟨vb, rfl, hr⟩, hb⟩; rw [HBk.out] at hr; obtain ⟨AB, cB, rfl⟩ := Kd.R_slice hr; have HRw := Aside0.mk hr; have HB2 := Aside0.mk (HB1.out.trans (hb.mono HB1.out.size)); have HL2 := Aside0.mk (HL1.out.below hb); clear hr hb))
  have HA2 := Aside0.mk (show HealAt B W w2 lg sg rg (.slice A4 lines.length c4) lines st A m c x (.slice AB bk.length cB) bk from ⟨HR.out.1.below HB2.out, HR.out.2, HL2.out, Kd.R_mono (Kd.R_lower HRw.out HB1.out.size) (fun k hk => Nat.le_trans HB1.out.size hk), Kept.of_below HB2.out _, HB2.out.mono HBW.out⟩)
  have hcB := (Kd.R_reads' HRw.out).2.1
  obtain ⟨n, hn⟩ : ∃ n, n = bk.length := ⟨_, rfl⟩
  have HN := Aside0.mk hn
  rw [← hn] at hcB hlen ⊢
  clear hn q2 q2b
  go_loopw [5, 22] (fun v5 v22 wr => ∃ (k q : Nat) (y : ReelV), k ≤ n ∧ v22 = .int .i64 k ∧ v5 = .int .i64 q ∧ q ≤ k ∧ Aside0 (healV (bk.drop k) k y q = r) ∧ Aside0 (y.b.length = x.b.length) ∧ Aside0 (HealAt B W wr lg sg rg (.slice A4 lines.length c4) lines st A m c y (.slice AB bk.length cB) bk)) (fun _ v22 _ => n - (intOf v22).toNat)
  case atStart => exact ⟨0, 0, x, Nat.zero_le _, rfl, rfl, Nat.le_refl _, HRs, ⟨rfl⟩, HA2⟩
  case round =>
    obtain ⟨k, q, y, hk, rfl, rfl, hq, hhe, hyl, hat⟩ := hrel
    by_cases hkn : k < n
    · have i0 : (0 : Int) ≤ (k : Int) := by omega
      have i1 : (k : Int) < (n : Int) := by omega
      have i2 : (k : Int) < (m : Int) := by have := HM.out; omega
      have hkb : k < bk.length := by rw [← HN.out]; exact hkn
      obtain ⟨b, hb⟩ : ∃ b, b = bk[k] := ⟨_, rfl⟩
      obtain ⟨ad, he, hcx⟩ := Kd.at_int (Kd.R_reads' hat.out.row).2.2 (k : Int) i0 (by omega)
      cases he
      have h1 : rd bk (k : Int) = b := by
        rw [hb]
        show bk.getD (k : Int).toNat 0 = _
        rw [Int.toNat_natCast, List.getD_eq_getElem?_getD, List.getElem?_eq_getElem hkb]
        rfl
      rw [h1, Int.toNat_natCast] at hcx
      have c1 : wr.cell? ⟨lg, 1, none⟩ = some (ptr rg) := (blk_cell hat.out.lib.cells 1).trans rfl
      have r0 := hat.out.reel.rc.c0
      have hyk : k < y.b.length := by have := hyl.out; omega
      obtain ⟨ad2, he2, hcy⟩ := Kd.at_int (Kd.R_reads' hat.out.reel.row).2.2 (k : Int) i0 (by omega)
      cases he2
      obtain ⟨v, hv⟩ : ∃ v, v = y.b.getD k 0 := ⟨_, rfl⟩
      rw [show rd y.b (k : Int) = v by rw [hv]; show y.b.getD (k : Int).toNat 0 = _; rw [Int.toNat_natCast], Int.toNat_natCast] at hcy
      have hdr : bk.drop k = b :: bk.drop (k + 1) := by rw [hb]; exact List.drop_eq_getElem_cons hkb
      have hh := hhe.out
      rw [hdr, healV, ← hv] at hh
      have HP := Aside0.mk (reel_put hat.out.reel (k : Int) b)
      have hpv := putV_in (b := b) hat.out.off hyk
      have HKn := Aside0.mk (wrap_step k (by omega))
      have HKq := Aside0.mk (wrap_step q (by omega))
      clear h1 hb hv hdr
      replace i0 := eq_true i0
      replace i1 := eq_true i1
      replace i2 := eq_true i2
      by_cases hx : v = b
      · rw [if_pos hx] at hh
        subst hx
        have HH := Aside0.mk hh
        clear hh hpv HP hhe
        go_wp2_with (fail)
        exact ⟨⟨k + 1, q, y, by omega, by first | rw [HKn.out] | rfl, rfl, by omega, HH, hyl, hat⟩, by first | (rw [HKn.out]; show n - (((k + 1 : Nat) : Int)).toNat < n - ((k : Nat) : Int).toNat; rw [Int.toNat_natCast, Int.toNat_natCast]; omega) | (simp [intOf]; omega)⟩
      · rw [if_neg hx] at hh
        have d1 : (v == b) = false := beq_eq_false_iff_ne.2 hx
        by_cases hf : y.fuse = 0
        · rw [hpv, if_pos hf, if_neg (show ¬ (8 : Int) = 0 by decide)] at hh
          have HPv := Aside0.mk (show putV y (k : Int) b = (8, { y with off := true }) by rw [hpv, if_pos hf])
          have HH := Aside0.mk hh
          clear hh hpv hf hx hhe
          go_wp2_with (go_at_call 32; refine HP.out.mono ?_; rintro e w5 ⟨rfl, ht⟩; rw [HPv.out] at ht ⊢; have HT5 := Aside0.mk ht; clear ht)
          go_ret2
          rw [← HH.out]
          exact ⟨rfl, ⟨HT5.out.reel, hat.out.kept.then_ HT5.out.kept (fun j hj => .inl hj), hat.out.bel.trans HT5.out.bel⟩⟩
        · rw [hpv, if_neg hf, if_pos rfl] at hh
          have HPv := Aside0.mk (show putV y (k : Int) b = (0, { y with fuse := less y.fuse, b := y.b.set k b }) by rw [hpv, if_neg hf])
          have HH := Aside0.mk (show healV (bk.drop (k + 1)) (k + 1) { y with fuse := less y.fuse, b := y.b.set k b } ((q + 1 : Nat) : Int) = r from hh)
          clear hh hpv hf hx hhe
          go_wp2_with (go_at_call 32; refine HP.out.mono ?_; rintro e w5 ⟨rfl, ht⟩; rw [HPv.out] at ht ⊢; have HT5 := Aside0.mk ht; clear ht)
          exact ⟨⟨k + 1, q + 1, _, by omega, by first | rw [HKn.out] | rfl, by first | rw [HKq.out] | rfl, by omega, HH, ⟨by simpa using hyl.out⟩, ⟨hat.out.put HF.out HT5.out hat.out.off⟩⟩, by first | (rw [HKn.out]; show n - (((k + 1 : Nat) : Int)).toNat < n - ((k : Nat) : Int).toNat; rw [Int.toNat_natCast, Int.toNat_natCast]; omega) | (simp [intOf]; omega)⟩
    · have i1 : ¬ (k : Int) < (n : Int) := by omega
      obtain rfl : k = n := by omega
      go_wp2_with (fail)
      go_ret2
      have h := hhe.out
      rw [HN.out, List.drop_length, healV] at h
      rw [← h]
      exact ⟨rfl, ⟨hat.out.reel, hat.out.kept, hat.out.bel⟩⟩
end
end Go.Proofs.YtoeeipkiadbnpaaGreatDoor.Lib10
end

section
namespace Go.Proofs.YtoeeipkiadbnpaaGreatDoor.Lib10
open Go.RowKit Go.Proofs.YtoeeipkiadbnpaaGreatDoorW.PrintWords Go.Proofs.YtoeeipkiadbnpaaGreatDoorW.PrintLast Go.Proofs.YtoeeipkiadbnpaaGreatDoorW.PrintMore
set_option linter.unusedVariables false
variable {B : Nat}
theorem flip_ne_all : (List.range 256).all (fun v => (List.range 8).all fun b => decide (flipB (v : Nat) (b : Nat) ≠ (v : Nat))) = true := by decide +kernel
theorem flip_ne {v b : Int} (hv : 0 ≤ v ∧ v ≤ 255) (hb : 0 ≤ b ∧ b < 8) : flipB v b ≠ v := by
  obtain ⟨v, rfl⟩ : ∃ q : Nat, v = q := ⟨v.toNat, by omega⟩
  obtain ⟨b, rfl⟩ : ∃ q : Nat, b = q := ⟨b.toNat, by omega⟩
  have h := List.all_eq_true.1 flip_ne_all v (List.mem_range.2 (by omega))
  have h2 := List.all_eq_true.1 h b (List.mem_range.2 (by omega))
  exact of_decide_eq_true h2
def cnt : List Bool → Nat
  | [] => 0
  | b :: l => (if b = true then 1 else 0) + cnt l
theorem diffs_met : ∀ (b0 b : List Int) (met : List Bool), b.length = b0.length → met.length = b0.length → (∀ i, i < b0.length → met.getD i false = false → b.getD i 0 = b0.getD i 0) → (∀ i, i < b0.length → met.getD i false = true → b.getD i 0 ≠ b0.getD i 0) → diffs b0 b = cnt met
  | [], b, met, h1, h2, _, _ => by
    obtain rfl : met = [] := List.eq_nil_of_length_eq_zero (by simpa using h2)
    cases b <;> rfl
  | x :: b0, [], met, h1, _, _, _ => by simp at h1
  | x :: b0, y :: b, [], _, h2, _, _ => by simp at h2
  | x :: b0, y :: b, m :: met, h1, h2, h3, h4 => by
    have ih := diffs_met b0 b met (by simpa using h1) (by simpa using h2) (fun i hi hm => by simpa using h3 (i + 1) (by simp; omega) (by simpa using hm)) (fun i hi hm => by simpa using h4 (i + 1) (by simp; omega) (by simpa using hm))
    rw [diffs, cnt, ih]
    cases m with
    | false =>
      have := h3 0 (by simp) rfl
      rw [if_pos (by simpa using this)]
      rfl
    | true =>
      have := h4 0 (by simp) rfl
      rw [if_neg (by simpa using this)]
      rfl
theorem Flipped.cnt {b0 b : List Int} {met : List Bool} (h : Flipped b0 b met) (hc : ∀ x ∈ b0, IsCode x) : diffs b0 b = Lib10.cnt met := by
  refine diffs_met b0 b met h.len h.mlen (fun i _ hm => h.no i hm) (fun i hi hm => ?_)
  obtain ⟨k, k0, k8, e⟩ := h.yes i hm
  rw [e]
  have hg : b0.getD i 0 = b0[i] := by simp [List.getD_eq_getElem?_getD, hi]
  rw [hg]
  exact flip_ne (code_byt (hc _ (List.getElem_mem hi))) ⟨k0, k8⟩
theorem flipV_same (x : ReelV) (i b : Int) : (flipV x i b).size = x.size ∧ (flipV x i b).fuse = x.fuse := by unfold flipV; split <;> exact ⟨rfl, rfl⟩
/-- Turning bits over beside a library. -/
structure Turning (B : Nat) (W0 w : World) (lg sg rg : Nat) (vj : Value) (A : Option Addr) (m c : Nat) (x : ReelV) (AM : Option Addr) (nb cM : Nat) (A10 : Option Addr) (c10 : Nat) (lines : List ByteArray) (st : St) (y : ReelV) (met : List Bool) : Prop where
  fl : Flips B W0 w rg A m c x AM nb cM A10 c10 lines y met
  lib : LibS B w lg sg rg vj lines st
  same : y.size = x.size ∧ y.fuse = x.fuse
theorem Turning.below {W0 w w' : World} {lg sg rg : Nat} {vj : Value} {A : Option Addr} {m c : Nat} {x : ReelV} {AM : Option Addr} {nb cM : Nat} {A10 : Option Addr} {c10 : Nat} {lines : List ByteArray} {st : St} {y : ReelV} {met : List Bool} (h : Turning B W0 w lg sg rg vj A m c x AM nb cM A10 c10 lines st y met) (hb : Below w.heap.size w w') (h9 : 9 ≤ B) : Turning B W0 w' lg sg rg vj A m c x AM nb cM A10 c10 lines st y met :=
  ⟨h.fl.below hb h9, h.lib.below hb, h.same⟩
theorem met_opened {w w' : World} {rg : Nat} {A : Option Addr} {m c : Nat} {y : ReelV} {base : Nat} {v : Value} {met : List Bool} (h : Kd.bool.R 4 w base (fun _ => True) v met) (hr : ReelIs B w rg A m c y) (hk : Kept w w' (RF rg A m c)) : Kd.bool.R 4 w' base (fun _ => True) v met :=
  R_apart h rfl (fun k cells hc => hk.2 k (blk_lt hc) (fun hf => by
    obtain ⟨cs, t2, hc2, rfl | rfl⟩ := hr.blk k hf
    · exact type_ne hc hc2 (show (4 : Nat) ≠ 5 by decide) rfl
    · exact type_ne hc hc2 (show (4 : Nat) ≠ 70 by decide) rfl))
theorem row_opened {w w' : World} {rg : Nat} {A : Option Addr} {m c : Nat} {y : ReelV} {base : Nat} {v : Value} {lines : List ByteArray} (h : Kd.string.R 9 w base (fun _ => True) v lines) (hr : ReelIs B w rg A m c y) (hk : Kept w w' (RF rg A m c)) : Kd.string.R 9 w' base (fun _ => True) v lines :=
  R_apart h rfl (fun k cells hc => hk.2 k (blk_lt hc) (fun hf => by
    obtain ⟨cs, t2, hc2, rfl | rfl⟩ := hr.blk k hf
    · exact type_ne hc hc2 (show (9 : Nat) ≠ 5 by decide) rfl
    · exact type_ne hc hc2 (show (9 : Nat) ≠ 70 by decide) rfl))
/-- Behind Open at turned bits. -/
structure Anew (B : Nat) (W0 w : World) (lg ln sg rg : Nat) (vj : Value) (A : Option Addr) (m c : Nat) (AM : Option Addr) (nb cM : Nat) (A10 : Option Addr) (c10 : Nat) (lines : List ByteArray) (st : St) (y : ReelV) (met : List Bool) : Prop where
  reel : ReelIs B w rg A m c y
  lib : LibS B w lg sg rg vj lines st
  next : ∃ sg' vj', LibS B w ln sg' rg vj' lines st
  met : Kd.bool.R 4 w B (fun _ => True) (.slice AM nb cM) met
  sure : Kd.string.R 9 w B (fun _ => True) (.slice A10 lines.length c10) lines
  tabs : Tabs w
  bel : Below B W0 w
theorem Anew.below {W0 w w' : World} {lg ln sg rg : Nat} {vj : Value} {A : Option Addr} {m c : Nat} {AM : Option Addr} {nb cM : Nat} {A10 : Option Addr} {c10 : Nat} {lines : List ByteArray} {st : St} {y : ReelV} {met : List Bool} (h : Anew B W0 w lg ln sg rg vj A m c AM nb cM A10 c10 lines st y met) (hb : Below w.heap.size w w') (h9 : 9 ≤ B) : Anew B W0 w' lg ln sg rg vj A m c AM nb cM A10 c10 lines st y met := by
  obtain ⟨sg', vj', hn⟩ := h.next
  exact ⟨h.reel.below hb, h.lib.below hb, ⟨sg', vj', hn.below hb⟩, Kd.R_below h.met hb, Kd.R_below h.sure hb, h.tabs.below (hb.mono (by have := h.reel.low; have := blk_lt h.reel.rc; omega)) h9, h.bel.trans (hb.mono (by have := h.reel.low; have := blk_lt h.reel.rc; omega))⟩
theorem Anew.to {W0 w w' : World} {lg ln sg rg : Nat} {vj : Value} {A : Option Addr} {m c m' : Nat} {AM : Option Addr} {nb cM : Nat} {A10 : Option Addr} {c10 : Nat} {lines : List ByteArray} {st : St} {y y' : ReelV} {met : List Bool} (h : Anew B W0 w lg ln sg rg vj A m c AM nb cM A10 c10 lines st y met) (ht : ReelTo B w rg A m c m' y' w') (h9 : 9 ≤ B) : Anew B W0 w' lg ln sg rg vj A m' c AM nb cM A10 c10 lines st y' met := by
  obtain ⟨sg', vj', hn⟩ := h.next
  exact ⟨ht.reel, h.lib.kept ht.kept (fun j hj => h.reel.blk j hj), ⟨sg', vj', hn.kept ht.kept (fun j hj => h.reel.blk j hj)⟩, met_opened h.met h.reel ht.kept, row_opened h.sure h.reel ht.kept, h.tabs.below ht.bel h9, h.bel.trans ht.bel⟩
theorem Turning.open {W0 w : World} {lg sg rg : Nat} {vj : Value} {A : Option Addr} {m c : Nat} {x : ReelV} {AM : Option Addr} {nb cM : Nat} {A10 : Option Addr} {c10 : Nat} {lines : List ByteArray} {st : St} {y : ReelV} {met : List Bool} (h : Turning B W0 w lg sg rg vj A m c x AM nb cM A10 c10 lines st y met) (hx : x.b = booksV lines) (hr : Reach lines st) (h9 : 9 ≤ B) : Calls Tryz.prog 18 #[ptr rg] w fun e w' => ∃ ln m', e = .returned (.tuple #[ptr ln, .int .i64 0]) ∧ Anew B W0 w' lg ln sg rg vj A m' c AM nb cM A10 c10 lines st y met := by
  have hco : ∀ z ∈ x.b, IsCode z := by rw [hx]; exact code_books lines
  have hop : openM y.b = (lines, st) := (openM_congr (h.fl.fl.decs hco)).trans (by rw [hx]; exact hr.open)
  refine (libOpen_on h.fl.reel h.fl.off (h.fl.fl.byt hco) h.fl.tabs).mono ?_
  rintro e w' ⟨rfl, ⟨sg', vj', hl⟩, ⟨m', hr2⟩, hk, hb⟩
  rw [hop] at hl hr2
  have e1 : ({ y with b := y.b.take (booksV lines).length } : ReelV) = y := by
    have e2 : y.b.take (booksV lines).length = y.b := List.take_of_length_le (by rw [h.fl.fl.len, hx]; exact Nat.le_refl _)
    rw [e2]
  rw [e1] at hr2
  have hB : B ≤ w.heap.size := by have := h.fl.reel.low; have := blk_lt h.fl.reel.rc; omega
  exact ⟨_, m', rfl, ⟨hr2, h.lib.kept hk (fun j hj => h.fl.reel.blk j hj), ⟨sg', vj', hl.lower hB⟩, met_opened h.fl.met h.fl.reel hk, row_opened h.fl.sure h.fl.reel hk, h.fl.tabs.below hb h9, h.fl.bel.trans hb⟩⟩
def FlAt (W : World) (A : Option Addr) (fl : List (Int × Int)) : Prop := ∀ j p, fl[j]? = some p → ∃ ad, A = some ad ∧ W.cell? (ad.add (j * 2)) = some (.int .i64 p.1) ∧ W.cell? (ad.add (j * 2 + 1)) = some (.int .i64 p.2)
section
set_option maxRecDepth 100000
set_option maxHeartbeats 2000000
end
end Go.Proofs.YtoeeipkiadbnpaaGreatDoor.Lib10
end

section
namespace Go.Proofs.YtoeeipkiadbnpaaGreatDoor.Lib10
open Go.RowKit Go.Proofs.YtoeeipkiadbnpaaGreatDoorW.PrintWords Go.Proofs.YtoeeipkiadbnpaaGreatDoorW.PrintLast Go.Proofs.YtoeeipkiadbnpaaGreatDoorW.PrintMore
set_option linter.unusedVariables false
variable {B : Nat}
theorem bytesIn {w : World} {base : Nat} {ok : Nat → Prop} {A : Option Addr} {n c : Nat} {xs : List Int} (h : (Kd.int .u8).R 5 w base ok (.slice A n c) xs) : Lib.BytesIn w A n xs := fun hn => by
  have hl := (Kd.R_reads' h).1
  obtain ⟨g, cap, e, _⟩ := Kd.R_form h (by omega)
  injection e with e _ _
  subst e
  refine ⟨g, 0, rfl, fun i hi => ?_⟩
  have hc := (Kd.R_celln 0 h (i : Int) (by omega) (by omega)).1
  simpa [rdOf] using hc
theorem equal_bytes {w : World} {b1 b2 : Nat} {k1 k2 : Nat → Prop} {A A' : Option Addr} {n c m d : Nat} {xs : List Int} (h1 : (Kd.int .u8).R 5 w b1 k1 (.slice A n c) xs) (h2 : (Kd.int .u8).R 5 w b2 k2 (.slice A' m d) xs) : Calls Tryz.prog 29 #[.slice A n c, .slice A' m d] w fun e w' => e = .returned (.bool true) ∧ w' = w :=
  (Tryz.bytes_Equal_all A A' n c m d xs xs w (Kd.R_reads' h1).1.symm (Kd.R_reads' h2).1.symm (bytesIn h1) (bytesIn h2)).mono fun e w' hw => by
    obtain ⟨rfl, rfl⟩ := hw
    exact ⟨by simp, rfl⟩
theorem diffs_take : ∀ (a b : List Int) (k : Nat), k < a.length → a.length = b.length → diffs (a.take (k + 1)) (b.take (k + 1)) = diffs (a.take k) (b.take k) + if b.getD k 0 = a.getD k 0 then 0 else 1
  | [], b, k, h, _ => by simp at h
  | x :: a, [], k, _, h => by simp at h
  | x :: a, y :: b, 0, _, _ => by simp [diffs]
  | x :: a, y :: b, k + 1, h, hl => by
    have ih := diffs_take a b k (by simpa using h) (by simpa using hl)
    simp only [List.take_succ_cons, diffs, List.getD_cons_succ]
    omega
theorem diffs_le : ∀ (a b : List Int), diffs a b ≤ a.length
  | [], b => by simp [diffs]
  | x :: a, [] => by simp [diffs]
  | x :: a, y :: b => by have := diffs_le a b; simp only [diffs, List.length_cons]; split <;> omega
theorem small8 (fz : Int) : ∃ f : Nat, wrap64 ((IntKind.u64.wrap fz).tmod 8) = (f : Int) ∧ f < 8 := by
  have h0 : 0 ≤ IntKind.u64.wrap fz := by
    have e : IntKind.u64.wrap fz = fz % 18446744073709551616 := rfl
    rw [e]
    omega
  have h1 : 0 ≤ (IntKind.u64.wrap fz).tmod 8 := Int.tmod_nonneg _ h0
  have h2 : (IntKind.u64.wrap fz).tmod 8 < 8 := Int.tmod_lt_of_pos _ (by decide)
  refine ⟨((IntKind.u64.wrap fz).tmod 8).toNat, ?_, by omega⟩
  unfold wrap64
  omega
theorem sub_small {a b : Nat} (h : b < a) (ha : a ≤ 100000) : wrap64 ((a : Int) - (b : Int)) = ((a - b : Nat) : Int) := by unfold wrap64; omega
/-- Within LibraryHeals. -/
structure HealS (B : Nat) (W0 w : World) (lg sg rg : Nat) (vj : Value) (A : Option Addr) (m c : Nat) (lines : List ByteArray) (st : St) (y : ReelV) (Aw : Option Addr) (nb cw : Nat) : Prop where
  reel : ReelIs B w rg A m c y
  lib : LibS B w lg sg rg vj lines st
  size : y.size = 20000
  len : y.b.length = nb
  want : ∃ base, (Kd.int .u8).R 5 w base (fun j => base ≤ j) (.slice Aw nb cw) (booksV lines) ∧ ∀ k, RF rg A m c k → k < base
  tabs : Tabs w
  bel : Below B W0 w
theorem HealS.below {W0 w w' : World} {lg sg rg : Nat} {vj : Value} {A : Option Addr} {m c : Nat} {lines : List ByteArray} {st : St} {y : ReelV} {Aw : Option Addr} {nb cw : Nat} (h : HealS B W0 w lg sg rg vj A m c lines st y Aw nb cw) (hb : Below w.heap.size w w') (h9 : 9 ≤ B) : HealS B W0 w' lg sg rg vj A m c lines st y Aw nb cw :=
  ⟨h.reel.below hb, h.lib.below hb, h.size, h.len, (by obtain ⟨base, h1, h2⟩ := h.want; exact ⟨base, Kd.R_below h1 hb, h2⟩), h.tabs.below (hb.mono (by have := h.reel.low; have := blk_lt h.reel.rc; omega)) h9, h.bel.trans (hb.mono (by have := h.reel.low; have := blk_lt h.reel.rc; omega))⟩
theorem HealS.to {W0 w w' : World} {lg sg rg : Nat} {vj : Value} {A : Option Addr} {m c : Nat} {lines : List ByteArray} {st : St} {y y' : ReelV} {Aw : Option Addr} {nb cw : Nat} (h : HealS B W0 w lg sg rg vj A m c lines st y Aw nb cw) (ht : ReelTo B w rg A m c m y' w') (hs : y'.size = y.size) (hl : y'.b.length = y.b.length) (h9 : 9 ≤ B) : HealS B W0 w' lg sg rg vj A m c lines st y' Aw nb cw :=
  ⟨ht.reel, h.lib.kept ht.kept (fun j hj => h.reel.blk j hj), hs.trans h.size, hl.trans h.len, (by obtain ⟨base, h1, h2⟩ := h.want; exact ⟨base, R_same h1 rfl (fun k hk hlt => ht.kept.2 k hlt (fun hf => by have := h2 k hf; omega)), h2⟩), h.tabs.below ht.bel h9, h.bel.trans ht.bel⟩
theorem flipV_len (x : ReelV) (i b : Int) : (flipV x i b).b.length = x.b.length := by unfold flipV; split <;> simp
theorem flipV_off (x : ReelV) (i b : Int) : (flipV x i b).off = x.off := by unfold flipV; split <;> rfl
theorem HealS.flip {W0 w : World} {lg sg rg : Nat} {vj : Value} {A : Option Addr} {m c : Nat} {lines : List ByteArray} {st : St} {y : ReelV} {Aw : Option Addr} {nb cw : Nat} (h : HealS B W0 w lg sg rg vj A m c lines st y Aw nb cw) (h9 : 9 ≤ B) (i b : Int) : Calls Tryz.prog 23 #[ptr rg, .int .i64 i, .int .i64 b] w fun e w' => (∃ u, e = .returned u) ∧ HealS B W0 w' lg sg rg vj A m c lines st (flipV y i b) Aw nb cw :=
  (reel_flip h.reel i b).mono fun e w' hw => ⟨hw.1, h.to hw.2 (flipV_same y i b).1 (flipV_len y i b) h9⟩
theorem HealS.free {W0 w : World} {lg sg rg : Nat} {vj : Value} {A : Option Addr} {m c : Nat} {lines : List ByteArray} {st : St} {y : ReelV} {Aw : Option Addr} {nb cw d : Nat} (h : HealS B W0 w lg sg rg vj A m c lines st y Aw nb cw) (h9 : 9 ≤ B) (ho : y.off = false) (hf : y.fuse = -1) (hd : diffs (booksV lines) y.b = d) (hnb : (booksV lines).length = nb) : Calls Tryz.prog 30 #[ptr lg] w fun e w' => e = .returned (.tuple #[.int .i64 (d : Int), .int .i64 0]) ∧ HealS B W0 w' lg sg rg vj A m c lines st (mkReel 20000 lines) Aw nb cw := by
  have hfr := healV_free (booksV lines) 0 y 0 ho hf (by rw [h.len]; omega)
  rw [List.drop_zero, hd, List.take_zero, List.nil_append] at hfr
  have e1 : ({ y with b := booksV lines } : ReelV) = mkReel 20000 lines := by
    have hs := h.size
    obtain ⟨yb, ys, yo, yf⟩ := y
    simp only at ho hs hf
    unfold mkReel
    rw [ho, hs, hf]
  rw [e1] at hfr
  refine (heal_calls h.lib h.reel ho (by rw [h.len, hnb]; exact Nat.le_refl _)).mono ?_
  rw [hfr]
  rintro e w' ⟨rfl, ht⟩
  refine ⟨?_, h.to ht h.size.symm (by rw [h.len]; exact hnb) h9⟩
  show Ending.returned (.tuple #[.int .i64 (0 + (d : Int)), .int .i64 0]) = _
  rw [Int.zero_add]
theorem HealS.fused {W0 w : World} {lg sg rg : Nat} {vj : Value} {A : Option Addr} {m c : Nat} {lines : List ByteArray} {st : St} {y : ReelV} {Aw : Option Addr} {nb cw d f : Nat} (h : HealS B W0 w lg sg rg vj A m c lines st y Aw nb cw) (h9 : 9 ≤ B) (ho : y.off = false) (hf : y.fuse = (f : Int)) (hd : diffs (booksV lines) y.b = d) (hfd : f < d) (hnb : (booksV lines).length = nb) : Calls Tryz.prog 30 #[ptr lg] w fun e w' => e = .returned (.tuple #[.int .i64 0, .int .i64 8]) ∧ ∃ y', HealS B W0 w' lg sg rg vj A m c lines st y' Aw nb cw ∧ diffs (booksV lines) y'.b = d - f := by
  obtain ⟨b', h1, h2, h3, _⟩ := healV_fuse (booksV lines) 0 y 0 f ho hf (by rw [h.len]; omega) (by rw [List.drop_zero, hd]; exact hfd)
  rw [List.drop_zero, List.drop_zero, hd] at h3
  refine (heal_calls h.lib h.reel ho (by rw [h.len, hnb]; exact Nat.le_refl _)).mono ?_
  rw [h1]
  rintro e w' ⟨rfl, ht⟩
  exact ⟨rfl, _, h.to ht rfl h2 h9, by show diffs _ b' = _; omega⟩
theorem HealS.power {W0 w : World} {lg sg rg : Nat} {vj : Value} {A : Option Addr} {m c : Nat} {lines : List ByteArray} {st : St} {y : ReelV} {Aw : Option Addr} {nb cw : Nat} (h : HealS B W0 w lg sg rg vj A m c lines st y Aw nb cw) (h9 : 9 ≤ B) : Calls Tryz.prog 21 #[ptr rg] w fun e w' => (∃ u, e = .returned u) ∧ HealS B W0 w' lg sg rg vj A m c lines st (powerV y) Aw nb cw :=
  (reel_power h.reel).mono fun e w' hw => ⟨hw.1, h.to hw.2 rfl rfl h9⟩
theorem HealS.fuse {W0 w : World} {lg sg rg : Nat} {vj : Value} {A : Option Addr} {m c : Nat} {lines : List ByteArray} {st : St} {y : ReelV} {Aw : Option Addr} {nb cw : Nat} (h : HealS B W0 w lg sg rg vj A m c lines st y Aw nb cw) (h9 : 9 ≤ B) (f : Nat) (hf : f < 8) : Calls Tryz.prog 19 #[ptr rg, .int .i64 (f : Int)] w fun e w' => (∃ u, e = .returned u) ∧ HealS B W0 w' lg sg rg vj A m c lines st { y with fuse := (f : Int) } Aw nb cw := by
  have e1 : fuseV y (f : Int) = { y with fuse := (f : Int) } := by unfold fuseV; rw [if_neg (by omega)]
  have h1 := reel_fuse h.reel (f : Int) (by omega)
  rw [e1] at h1
  exact h1.mono fun e w' hw => ⟨hw.1, h.to hw.2 rfl rfl h9⟩
theorem HealS.awk {W0 w w' : World} {lg sg rg : Nat} {vj : Value} {A : Option Addr} {m c : Nat} {lines : List ByteArray} {st : St} {y : ReelV} {Aw : Option Addr} {nb cw : Nat} (h : HealS B W0 w lg sg rg vj A m c lines st y Aw nb cw) (hb : Below w.heap.size w w') (h9 : 9 ≤ B) : Below B W0 w' := by
  exact h.bel.trans (hb.mono (by have := h.reel.low; have := blk_lt h.reel.rc; omega))
/-- Bytes of one library's reel, beside another library. -/
theorem Ran.heals {W0 w w' : World} {lg rg : Nat} {lines : List ByteArray} {st : St} (h : Ran B w lg rg lines st) (hb : Below w.heap.size w w') {Aw : Option Addr} {cw nb : Nat} (hnb : (booksV lines).length = nb) (hw : (Kd.int .u8).R 5 w' w.heap.size (fun j => w.heap.size ≤ j) (.slice Aw nb cw) (booksV lines)) (hT : Tabs w) (h9 : 9 ≤ B) (hb0 : Below B W0 w) : ∃ sg vj A m c, HealS B W0 w' lg sg rg vj A m c lines st (mkReel 20000 lines) Aw nb cw := by
  obtain ⟨sg, vj, A, m, c, h1, h2⟩ := h.at_
  have hB : B ≤ w.heap.size := by have := h2.low; have := blk_lt h2.rc; omega
  exact ⟨sg, vj, A, m, c, h2.below hb, h1.below hb, rfl, hnb, ⟨_, hw, fun k hk => (h2.own k hk).2⟩, hT.below (hb.mono hB) h9, hb0.trans (hb.mono hB)⟩
section
set_option maxRecDepth 100000
set_option maxHeartbeats 2000000
theorem heals_walk {W : World} {A A2 : Option Addr} {c c2 n2 : Nat} {l : List ByteArray} {fl : List (Int × Int)} (hfl : fl.length = n2) (hn2 : n2 ≤ 1048576) (hF : FlAt W A2 fl) (hn2c : n2 ≤ c2) (fz : Int) (hC : Kd.string.C W A l.length l) (hc : l.length ≤ c) (hs : ∀ x ∈ l, x.size < 4294967281) (hT : Tabs W) : Calls Tryz.prog 8 #[.slice A l.length c, .slice A2 n2 c2, .int .i64 fz] W fun e w' => e = .returned (.bool true) ∧ Below W.heap.size W w' := by
  have HO := Aside0.mk (opened_runs hC hc hs hT)
  have HT := Aside0.mk hT
  have hinv := runs_inv (l.take 60)
  obtain ⟨lines, hlines⟩ : ∃ x, x = (runs (l.take 60)).1 := ⟨_, rfl⟩
  obtain ⟨st, hst⟩ : ∃ x, x = (runs (l.take 60)).2 := ⟨_, rfl⟩
  unfold OpenedEnd2 at HO
  rw [← hlines, ← hst] at HO hinv
  have HAg := Aside0.mk (show runs (lines.take 60) = (lines, st) by
    rw [List.take_of_length_le (by have h1 := hinv.2.2; have h2 := List.length_take_le 60 l; omega)]
    exact runs_again hinv.1 hinv.2.1)
  have H9 := Aside0.mk hT.low
  have HFl := Aside0.mk (And.intro hfl hF)
  obtain ⟨n6, hn6⟩ : ∃ n6, n6 = min n2 60 := ⟨_, rfl⟩
  have hmin : min (n2 : Int) 60 = (n6 : Int) := by omega
  have HN6 := Aside0.mk (show n6 ≤ n2 ∧ n6 ≤ 60 by omega)
  have hn62 : n6 ≤ n2 := by omega
  have HN2 := Aside0.mk (And.intro hn2 hn2c)
  have hn6c : n6 ≤ c2 := by omega
  clear hC hs hT hF hfl hlines hst hinv hn6 hn2 hn2c
  obtain ⟨nb, hnb⟩ : ∃ nb, (booksV lines).length = nb := ⟨_, rfl⟩
  have HNb := Aside0.mk hnb
  have HD := Aside0.mk (show decide (lines = lines) = true from decide_eq_true rfl)
  clear hnb
  go_enter Tryz.func8, Tryz.ntmps8
  go_wp2_with (first
    | (go_at_call 11; refine (opened_runs (Kd.R_reads' HJ0.out).2.2 (Kd.R_reads' HJ0.out).2.1 HRb.out.short (HTs.out.below HB.out HTs.out.low)).mono ?_; rintro e wn ⟨lgG, rfl, hr, hb⟩; rw [HAg.out] at hr; have HRb := Aside0.mk ((HRb.out.below HB.out).below hb); have HRg := Aside0.mk hr; have HWb := Aside0.mk (HWb.out.trans ((HB.out.trans (hb.mono HB.out.size)).mono HWb.out.size)); have HTs := Aside0.mk (HT.out.below HWb.out H9.out); have HB := Aside0.mk (Below.refl wn.heap.size wn); clear hr hb)
    | (go_at_call 11; refine HO.out.mono ?_; rintro e wn ⟨lg, rfl, hr, hb⟩; have HRb := Aside0.mk hr; have HWb := Aside0.mk hb; have HTs := Aside0.mk (HT.out.below hb H9.out); have HB := Aside0.mk (Below.refl wn.heap.size wn); clear hr hb)
    | (go_at_call 12; with_reducible (refine (ran_journal (HRg.out.below HB.out)).mono ?_); rintro e wn ⟨⟨A1, c1, rfl, hr⟩, hb⟩; have HJ1 := Aside0.mk (Kd.R_below HJ1.out hb); have HJ2 := Aside0.mk hr; have HB := Aside0.mk (HB.out.trans (hb.mono HB.out.size)); clear hr hb)
    | (go_at_call 12; refine (ran_journal (HRb.out.below HB.out)).mono ?_; rintro e wn ⟨⟨A0, c0, rfl, hr⟩, hb⟩; have HJ0 := Aside0.mk hr; have HJ1 := Aside0.mk hr; have HB := Aside0.mk (HB.out.trans (hb.mono HB.out.size)); clear hr hb)
    | (go_at_call 20; refine (equal_rows HJ1.out HJ2.out HRb.out.few HRb.out.few).mono ?_; rintro e wn ⟨he, q9, rfl⟩; rw [show decide (lines = lines) = true from decide_eq_true rfl] at he; subst he; have HB := Aside0.mk (HB.out.trans ((drew_below _ q9).mono HB.out.size)))
    | (go_at_call 22; with_reducible (refine (ran_bytes (HRg.out.below HB.out)).mono ?_); rintro e wn ⟨⟨Aw, cw, rfl, hr⟩, hb⟩; rw [HNb.out] at hr ⊢; have HW0 := Aside0.mk (HRb.out.below HB.out); have HWT := Aside0.mk (HTs.out.below HB.out HTs.out.low); have HWB := Aside0.mk (HWb.out.trans (HB.out.mono HWb.out.size)); obtain ⟨sg, vj, A5, m5, c5, hhs⟩ := HW0.out.heals hb HNb.out hr HWT.out H9.out HWB.out; have HS := Aside0.mk hhs; have HB := Aside0.mk (HB.out.trans (hb.mono HB.out.size)); clear hr hb hhs)
    | (go_at_call 22; refine (bytes_fresh HS.out.reel).mono ?_; rintro e wn ⟨⟨v, rfl, hr⟩, hb⟩; obtain ⟨A6, c6, rfl⟩ := Kd.R_slice hr; have HE6 := Aside0.mk hr; have HS := Aside0.mk (HS.out.below hb H9.out); clear hr hb)
    | (go_at_call 29; obtain ⟨bw, hw, _⟩ := HS.out.want; refine (equal_bytes HE6.out hw).mono ?_; clear hw; rintro e wn ⟨rfl, rfl⟩))
  have HNb5 := Aside0.mk (show nb ≤ 100000 by have h3 := HS.out.reel.fine.len; have h4 := HS.out.reel.fine.size1; have h5 : (mkReel 20000 lines).b.length = nb := HNb.out; omega)
  clear hmin
  go_loopw [66] (fun v66 wr => ∃ (j : Nat) (y : ReelV), j ≤ n6 ∧ v66 = .int .i64 j ∧ Aside0 (y.off = false ∧ y.fuse = -1) ∧ Aside0 (HealS W.heap.size W wr lg sg W.heap.size vj A5 m5 c5 lines st y Aw nb cw)) (fun v66 _ => n6 - (intOf v66).toNat)
  case atStart => exact ⟨0, mkReel 20000 lines, Nat.zero_le _, rfl, ⟨⟨rfl, rfl⟩⟩, HS⟩
  case round =>
    obtain ⟨j, y, hj, rfl, hoff, hhs⟩ := hrel
    by_cases hjn : j < n6
    · have i0 : (0 : Int) ≤ (j : Int) := by omega
      have i1 : (j : Int) < (n6 : Int) := by omega
      have HJ1 := Aside0.mk (wrap_step j (by have := HN6.out; omega))
      obtain ⟨⟨pa, pb⟩, hp⟩ : ∃ p, fl[j]? = some p := ⟨_, List.getElem?_eq_getElem (by have := HFl.out.1; omega)⟩
      obtain ⟨ad, hA2, g0, g1⟩ := HFl.out.2 j _ hp
      have hlt0 : ad.block < W.heap.size := by have h := World.block_lt_of_cell? _ _ g0; rwa [add_block] at h
      subst hA2
      have hbk : wr.heap[ad.block]? = W.heap[ad.block]? := hhs.out.bel.block _ hlt0
      replace g0 : wr.cell? (ad.add (j * 2)) = some (.int .i64 pa) := (World.cell?_of_block (by rw [add_block]; exact hbk)).trans g0
      replace g1 : wr.cell? (ad.add (j * 2 + 1)) = some (.int .i64 pb) := (World.cell?_of_block (by rw [add_block]; exact hbk)).trans g1
      rw [show ad.add (j * 2 + 1) = { block := (ad.add (j * 2)).block, off := (ad.add (j * 2)).off + 1 } from (Addr.add_add ad (j * 2) 1).symm] at g1
      clear hp hbk
      obtain ⟨wa, hwa⟩ : ∃ wa, wa = wr.alloc (.cells #[.int .i64 pa, .int .i64 pb] 48) := ⟨_, rfl⟩
      have hab : Below wr.heap.size wr wa := by rw [hwa]; exact below_alloc (Below.refl _ _) _
      have HFa := Aside0.mk (hhs.out.below hab H9.out)
      have hnew : wa.heap[wr.heap.size]? = some (.cells #[.int .i64 pa, .int .i64 pb] 48) := by rw [hwa]; exact blk_new _ _
      have c0 : wa.cell? ⟨wr.heap.size, 0, none⟩ = some (.int .i64 pa) := (blk_cell hnew 0).trans rfl
      have c1 : wa.cell? ⟨wr.heap.size, 1, none⟩ = some (.int .i64 pb) := (blk_cell hnew 1).trans rfl
      by_cases hn0 : nb = 0
      · have hz : ¬ ((0 : Int) < (nb : Int)) := by omega
        clear c0 c1 hnew hab
        go_wp2_with (fail)
        rw [← hwa]
        exact ⟨⟨j + 1, y, by omega, by rw [HJ1.out], hoff, HFa⟩, by rw [HJ1.out]; show n6 - (((j + 1 : Nat) : Int)).toNat < n6 - ((j : Nat) : Int).toNat; rw [Int.toNat_natCast, Int.toNat_natCast]; omega⟩
      · have hz : (0 : Int) < (nb : Int) := by omega
        have hnz : ((nb : Int) == 0) = false := beq_eq_false_iff_ne.2 (by omega)
        have hun : IntKind.u64.wrap (nb : Int) = (nb : Int) := by
          have hnb5 := HNb5.out
          have e : IntKind.u64.wrap (nb : Int) = (nb : Int) % 18446744073709551616 := rfl
          rw [e]
          omega
        go_wp2_with (fail)
        rw [← hwa]
        clear hwa hnew hab
        have HFd := Aside0.mk (HFa.out.below (w' := wa.drew) (drew_below wa 1) H9.out)
        have c0d : wa.drew.cell? ⟨wr.heap.size, 0, none⟩ = some (.int .i64 pa) := c0
        have c1d : wa.drew.cell? ⟨wr.heap.size, 1, none⟩ = some (.int .i64 pb) := c1
        go_still_tail 14, (by kernel_rfl)
        change wpList _ _ _ _ _ wa.drew
        obtain ⟨wd, hwd⟩ : ∃ w, w = wa.drew := ⟨_, rfl⟩
        rw [← hwd] at HFd c0d c1d ⊢
        clear hwd c0 c1
        go_wp2_with (go_at_call 23; refine (HFd.out.flip H9.out _ _).mono ?_; rintro e wf ⟨⟨u, rfl⟩, hn⟩; have HFf := Aside0.mk hn; clear hn)
        exact ⟨⟨j + 1, _, by omega, by rw [HJ1.out], ⟨⟨(flipV_off y _ _).trans hoff.out.1, (flipV_same y _ _).2.trans hoff.out.2⟩⟩, HFf⟩, by rw [HJ1.out]; show n6 - (((j + 1 : Nat) : Int)).toNat < n6 - ((j : Nat) : Int).toNat; rw [Int.toNat_natCast, Int.toNat_natCast]; omega⟩
    · have i1 : ¬ (j : Int) < (n6 : Int) := by omega
      have HS := hhs
      have HOf := hoff
      have HYl := Aside0.mk hhs.out.len
      go_wp2_with (go_at_call 22; refine (bytes_fresh HS.out.reel).mono ?_; rintro e wn ⟨⟨v, rfl, hr⟩, hb⟩; obtain ⟨A7, c7, rfl⟩ := Kd.R_slice hr; rw [HYl.out] at hr ⊢; have HE7 := Aside0.mk hr; have HS := Aside0.mk (HS.out.below hb H9.out); clear hr hb)
      have HNN := HNb
      clear i1
      go_loopw [14, 92] (fun v14 v92 w3 => ∃ t p : Nat, t ≤ nb ∧ v92 = .int .i64 t ∧ v14 = .int .i64 p ∧ Aside0 (diffs ((booksV lines).take t) (y.b.take t) = p) ∧ wn = w3) (fun _ v92 _ => nb - (intOf v92).toNat)
      case atStart => exact ⟨0, 0, Nat.zero_le _, rfl, rfl, ⟨by rw [List.take_zero]; rfl⟩, rfl⟩
      case round =>
        obtain ⟨t, p, ht, rfl, rfl, hp, rfl⟩ := hrel
        by_cases htn : t < nb
        · have t0 : (0 : Int) ≤ (t : Int) := by omega
          have t1 : (t : Int) < (nb : Int) := by omega
          have t2 : ¬ ((nb : Int) ≤ (t : Int)) := by omega
          obtain ⟨bw, hw, _⟩ := HS.out.want
          obtain ⟨ad1, he1, hc1⟩ := Kd.at_int (Kd.R_reads' hw).2.2 (t : Int) t0 (by have := HNb.out; omega)
          obtain ⟨ad2, he2, hc2⟩ := Kd.at_int (Kd.R_reads' HE7.out).2.2 (t : Int) t0 (by have := HYl.out; omega)
          cases he1
          cases he2
          rw [Int.toNat_natCast] at hc1 hc2
          have hct := diffs_take (booksV lines) y.b t (by rw [HNb.out]; exact htn) (by rw [HNb.out, HYl.out])
          rw [hp.out] at hct
          obtain ⟨x1, hx1⟩ : ∃ x, x = (booksV lines).getD t 0 := ⟨_, rfl⟩
          obtain ⟨x2, hx2⟩ : ∃ x, x = y.b.getD t 0 := ⟨_, rfl⟩
          rw [show rd (booksV lines) (t : Int) = x1 by rw [hx1]; show (booksV lines).getD (t : Int).toNat 0 = _; rw [Int.toNat_natCast]] at hc1
          rw [show rd y.b (t : Int) = x2 by rw [hx2]; show y.b.getD (t : Int).toNat 0 = _; rw [Int.toNat_natCast]] at hc2
          rw [← hx1, ← hx2] at hct
          have HKt := Aside0.mk (wrap_step t (by have := HNb5.out; omega))
          have hpl : p ≤ 1000000 := by have h1 := diffs_le ((booksV lines).take t) (y.b.take t); have h2 := List.length_take_le t (booksV lines); have h3 := hp.out; have := HNb5.out; omega
          have HKp := Aside0.mk (wrap_step p (by omega))
          clear hw hx1 hx2
          by_cases hx : x2 = x1
          · rw [if_pos hx] at hct
            subst hx
            have HCt := Aside0.mk hct
            clear hct hpl
            go_wp2_with (fail)
            exact ⟨⟨t + 1, p, by omega, by first | rw [HKt.out] | rfl, rfl, HCt, by first | rfl | trivial⟩, by first | (rw [HKt.out]; show nb - (((t + 1 : Nat) : Int)).toNat < nb - ((t : Nat) : Int).toNat; rw [Int.toNat_natCast, Int.toNat_natCast]; omega) | (simp [intOf]; omega)⟩
          · rw [if_neg hx] at hct
            have d1 : (x2 == x1) = false := beq_eq_false_iff_ne.2 hx
            have HCt := Aside0.mk hct
            clear hct hpl hx
            go_wp2_with (fail)
            exact ⟨⟨t + 1, p + 1, by omega, by first | rw [HKt.out] | rfl, by first | rw [HKp.out] | rfl, HCt, by first | rfl | trivial⟩, by first | (rw [HKt.out]; show nb - (((t + 1 : Nat) : Int)).toNat < nb - ((t : Nat) : Int).toNat; rw [Int.toNat_natCast, Int.toNat_natCast]; omega) | (simp [intOf]; omega)⟩
        · have t1 : ¬ (t : Int) < (nb : Int) := by omega
          obtain ⟨q, hq⟩ : ∃ q, diffs (booksV lines) y.b = q := ⟨_, rfl⟩
          have HDf := Aside0.mk hq
          obtain rfl : p = q := by
            have h1 := hp.out
            rw [List.take_of_length_le (by rw [HNb.out]; omega), List.take_of_length_le (by rw [HYl.out]; omega), hq] at h1
            exact h1.symm
          have hql : p ≤ 100000 := by have h1 := diffs_le (booksV lines) y.b; have h2 := HNb.out; have h3 := HNb5.out; omega
          obtain ⟨f, hf, hf8⟩ := small8 fz
          have HF8 := Aside0.mk hf8
          by_cases hfd : f < p
          · have HLt := Aside0.mk hfd
            have i5 : (f : Int) < (p : Int) := by omega
            have hsub := sub_small (a := p) (b := f) (by omega) (by omega)
            clear hfd hq hql hf8 htn ht hjn hj
            go_wp2_with (first
                | (go_at_call 30; refine (HS.out.fused (f := f) H9.out HFu.out rfl HDf.out HLt.out HNb.out).mono ?_; rintro e wn ⟨rfl, y', hn, hd⟩; have HS := Aside0.mk hn; have HDf := Aside0.mk hd; clear hn hd HFu)
                | (go_at_call 30; refine (HS.out.free H9.out HOf.out.1 HOf.out.2 HDf.out HNb.out).mono ?_; rintro e wn ⟨rfl, hn⟩; have HS := Aside0.mk hn; have HOf := Aside0.mk (And.intro (show (mkReel 20000 lines).off = false from rfl) (show (mkReel 20000 lines).fuse = -1 from rfl)); have HDf := Aside0.mk (show diffs (booksV lines) (mkReel 20000 lines).b = 0 from diffs_self _); clear hn)
                | (go_at_call 19; refine (HS.out.fuse H9.out f HF8.out).mono ?_; rintro e wn ⟨⟨u, rfl⟩, hn⟩; have HS := Aside0.mk hn; have HFu := Aside0.mk (show ({ y with fuse := (f : Int) } : ReelV).off = false from HOf.out.1); have HDf := Aside0.mk (show diffs (booksV lines) ({ y with fuse := (f : Int) } : ReelV).b = p from HDf.out); clear hn)
                | (go_at_call 21; refine (HS.out.power H9.out).mono ?_; rintro e wn ⟨⟨u, rfl⟩, hn⟩; have HS := Aside0.mk hn; have HOf := Aside0.mk (And.intro (show (powerV y').off = false from rfl) (show (powerV y').fuse = -1 from rfl)); have HDf := Aside0.mk (show diffs (booksV lines) (powerV y').b = p - f from HDf.out); clear hn)
                | (go_at_call 22; refine (bytes_fresh HS.out.reel).mono ?_; rintro e wn ⟨⟨v, rfl, hr⟩, hb⟩; obtain ⟨A8, c8, rfl⟩ := Kd.R_slice hr; have HE8 := Aside0.mk hr; have HS := Aside0.mk (HS.out.below hb H9.out); clear hr hb)
                | (go_at_call 29; obtain ⟨bw, hw, _⟩ := HS.out.want; refine (equal_bytes HE8.out hw).mono ?_; clear hw; rintro e wn ⟨rfl, rfl⟩)
                | (go_at_call 13; refine (awake_calls _ HS.out.tabs).mono ?_; rintro e we ⟨rfl, hbe⟩; have HBe := Aside0.mk (HS.out.awk hbe H9.out); clear hbe))
            go_ret
            exact ⟨rfl, HBe.out⟩
          · have i5 : ¬ (f : Int) < (p : Int) := by omega
            clear hfd hq hql hf8 htn ht hjn hj
            go_wp2_with (first
                | (go_at_call 30; refine (HS.out.fused (f := f) H9.out HFu.out rfl HDf.out HLt.out HNb.out).mono ?_; rintro e wn ⟨rfl, y', hn, hd⟩; have HS := Aside0.mk hn; have HDf := Aside0.mk hd; clear hn hd HFu)
                | (go_at_call 30; refine (HS.out.free H9.out HOf.out.1 HOf.out.2 HDf.out HNb.out).mono ?_; rintro e wn ⟨rfl, hn⟩; have HS := Aside0.mk hn; have HOf := Aside0.mk (And.intro (show (mkReel 20000 lines).off = false from rfl) (show (mkReel 20000 lines).fuse = -1 from rfl)); have HDf := Aside0.mk (show diffs (booksV lines) (mkReel 20000 lines).b = 0 from diffs_self _); clear hn)
                | (go_at_call 19; refine (HS.out.fuse H9.out f HF8.out).mono ?_; rintro e wn ⟨⟨u, rfl⟩, hn⟩; have HS := Aside0.mk hn; have HFu := Aside0.mk (show ({ y with fuse := (f : Int) } : ReelV).off = false from HOf.out.1); have HDf := Aside0.mk (show diffs (booksV lines) ({ y with fuse := (f : Int) } : ReelV).b = p from HDf.out); clear hn)
                | (go_at_call 21; refine (HS.out.power H9.out).mono ?_; rintro e wn ⟨⟨u, rfl⟩, hn⟩; have HS := Aside0.mk hn; have HOf := Aside0.mk (And.intro (show (powerV y').off = false from rfl) (show (powerV y').fuse = -1 from rfl)); have HDf := Aside0.mk (show diffs (booksV lines) (powerV y').b = p - f from HDf.out); clear hn)
                | (go_at_call 22; refine (bytes_fresh HS.out.reel).mono ?_; rintro e wn ⟨⟨v, rfl, hr⟩, hb⟩; obtain ⟨A8, c8, rfl⟩ := Kd.R_slice hr; have HE8 := Aside0.mk hr; have HS := Aside0.mk (HS.out.below hb H9.out); clear hr hb)
                | (go_at_call 29; obtain ⟨bw, hw, _⟩ := HS.out.want; refine (equal_bytes HE8.out hw).mono ?_; clear hw; rintro e wn ⟨rfl, rfl⟩)
                | (go_at_call 13; refine (awake_calls _ HS.out.tabs).mono ?_; rintro e we ⟨rfl, hbe⟩; have HBe := Aside0.mk (HS.out.awk hbe H9.out); clear hbe))
            go_ret
            exact ⟨rfl, HBe.out⟩
end
end Go.Proofs.YtoeeipkiadbnpaaGreatDoor.Lib10
end
