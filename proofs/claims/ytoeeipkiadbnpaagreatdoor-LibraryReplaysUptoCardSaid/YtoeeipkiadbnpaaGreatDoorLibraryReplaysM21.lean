/- Texts that the proof of LibraryReplays needs, put together in build order by this session's program (wip/tools/claimtrim.py). -/
import Derived.Test.YtoeeipkiadbnpaaGreatDoorLibraryReplaysM20
section
namespace Go.Proofs.YtoeeipkiadbnpaaGreatDoor.Lib10
open Go.RowKit Go.Proofs.YtoeeipkiadbnpaaGreatDoorW.PrintWords Go.Proofs.YtoeeipkiadbnpaaGreatDoorW.PrintLast Go.Proofs.YtoeeipkiadbnpaaGreatDoorW.PrintMore
set_option linter.unusedVariables false
variable {B : Nat}
theorem LibS.grow {W W' : World} {lg sg rg : Nat} {vj : Value} {lines : List ByteArray} {st : St} {row : Option Nat} (h : LibS B W lg sg rg vj lines st) (hg : W.grownBy W' row) (hr : ∀ k, some k = row → (∃ cells, W.heap[k]? = some (.cells cells 9 (0, 0))) ∧ some k ≠ vj.ownBlock) : LibS B W' lg sg rg vj lines st := by
  refine ⟨(hg.block lg (blk_lt h.cells) (fun e => by obtain ⟨⟨cells, hc⟩, _⟩ := hr lg e; exact type_ne hc h.cells (show (9 : Nat) ≠ 77 by decide) rfl)).trans h.cells, h.low, ?_, h.sat.grown hg (fun k hk => by obtain ⟨⟨cells, hc⟩, _⟩ := hr k hk; exact ⟨cells, 9, hc, by decide, by decide⟩), h.good, h.short, h.bk⟩
  have h2 : Kd.string.R 9 W B (fun k => some k = vj.ownBlock) vj lines := by
    refine ⟨fun k hk => hk.symm, ?_⟩
    obtain ⟨_, ho⟩ := h.jr
    exact ho
  exact Kd.R_mono (R_same h2 rfl (fun k hk hl => hg.block k hl (fun e => (hr k e).2 hk))) (fun _ _ => trivial)
/-- A library that does lines while a fuse burns; what was acknowledged lies in a row of its own. -/
structure Burn (B : Nat) (w : World) (lg rg : Nat) (lines : List ByteArray) (st : St) (x : ReelV) (sg : Nat) (vj : Value) (A : Option Addr) (m c : Nat) (v : Value) : Prop where
  reach : Reach lines st
  lib : LibS B w lg sg rg vj lines st
  reel : ReelIs B w rg A m c x
  sure : Kd.string.R 9 w B (fun k => ¬ LF lg vj rg A m c k) v lines
  tabs : Tabs w
theorem LF.lt {W : World} {lg sg rg : Nat} {vj : Value} {lines : List ByteArray} {st : St} {A : Option Addr} {m c : Nat} {x : ReelV} (h1 : LibS B W lg sg rg vj lines st) (h2 : ReelIs B W rg A m c x) : ∀ k, LF lg vj rg A m c k → k < W.heap.size := by
  rintro k ((rfl | hk) | hk)
  · exact blk_lt h1.cells
  · obtain ⟨cells, hc⟩ := own_type h1.jr k hk
    exact blk_lt hc
  · exact (h2.own k hk).2
/-- A change has been done: what was acknowledged still lies there. -/
theorem sure_step {w w' : World} {lg rg : Nat} {vj vj' : Value} {A A' : Option Addr} {m c m' c' : Nat} {v : Value} {lines : List ByteArray} (h : Kd.string.R 9 w B (fun k => ¬ LF lg vj rg A m c k) v lines) (hk : Kept w w' (LF lg vj rg A m c)) (hn : ∀ k, LF lg vj' rg A' m' c' k → LF lg vj rg A m c k ∨ w.heap.size ≤ k) :
    Kd.string.R 9 w' B (fun k => ¬ LF lg vj' rg A' m' c' k) v lines := by
  have h2 : Kd.string.R 9 w B (fun k => ¬ LF lg vj rg A m c k ∧ k < w.heap.size) v lines := by
    refine ⟨fun k hk2 => ⟨h.1 k hk2, ?_⟩, ?_⟩
    · obtain ⟨cells, hc⟩ := own_type h k hk2.symm
      exact blk_lt hc
    · obtain ⟨_, ho⟩ := h
      exact ho
  refine Kd.R_mono (R_same h2 rfl (fun k hk2 hl => hk.2 k hl hk2.1)) (fun k hk2 hf => ?_)
  rcases hn k hf with h3 | h3
  · exact hk2.1 h3
  · have := hk2.2; omega
theorem Burn.do {w : World} {lg rg : Nat} {lines : List ByteArray} {st : St} {x : ReelV} {sg : Nat} {vj : Value} {A : Option Addr} {m c : Nat} {v : Value} (h : Burn B w lg rg lines st x sg vj A m c v) (ho : x.off = false) (hb : x.b = booksV lines) (hB : 9 ≤ B) {line : ByteArray} (hs : line.size < 4294967281) :
    Calls Tryz.prog 15 #[ptr lg, .string line] w fun e w' => e = .returned (.tuple #[.string (libDoV x lines st line).reply, .int .i64 (libDoV x lines st line).err]) ∧ (∃ sg' vj' A' m' c', LibS B w' lg sg' rg vj' (libDoV x lines st line).lines (libDoV x lines st line).st ∧ ReelIs B w' rg A' m' c' (libDoV x lines st line).reel ∧ Kd.string.R 9 w' B (fun k => ¬ LF lg vj' rg A' m' c' k) v lines ∧ Tabs w') ∧ Below B w w' := by
  obtain ⟨A4, c4, rfl⟩ := Kd.R_slice h.lib.jr
  refine (libDo_calls h.lib h.reel h.tabs ho (by rw [h.reel.len.1, hb]) hs).mono fun e w' hw => ?_
  obtain ⟨rfl, ⟨sg', vj', A', m', c', l1, l2, l3⟩, hk, hbl⟩ := hw
  exact ⟨rfl, ⟨sg', vj', A', m', c', l1, l2, sure_step h.sure hk l3, h.tabs.below hbl hB⟩, hbl⟩
theorem add_block (a : Addr) (n : Nat) : (a.add n).block = a.block := by unfold Addr.add; split <;> rfl
/-- Bytes some of which have one bit turned over: which, stands in met. -/
structure Flipped (b0 b : List Int) (met : List Bool) : Prop where
  len : b.length = b0.length
  mlen : met.length = b0.length
  no : ∀ i, met.getD i false = false → b.getD i 0 = b0.getD i 0
  yes : ∀ i, met.getD i false = true → ∃ k, 0 ≤ k ∧ k < 8 ∧ b.getD i 0 = flipB (b0.getD i 0) k
theorem getD_set {α : Type} (l : List α) (i j : Nat) (v d : α) (hi : i < l.length) : (l.set i v).getD j d = if j = i then v else l.getD j d := by
  simp only [List.getD_eq_getElem?_getD, List.getElem?_set]
  by_cases h : j = i
  · subst h; simp [hi]
  · rw [if_neg (fun e => h e.symm), if_neg h]
theorem Flipped.step {b0 b : List Int} {met : List Bool} (h : Flipped b0 b met) {i : Nat} (hi : i < b0.length) {k : Int} (k0 : 0 ≤ k) (k8 : k < 8) (hm : met.getD i false = false) : Flipped b0 (b.set i (flipB (b.getD i 0) k)) (met.set i true) := by
  refine ⟨by rw [List.length_set]; exact h.len, by rw [List.length_set]; exact h.mlen, fun j hj => ?_, fun j hj => ?_⟩
  · rw [getD_set _ _ _ _ _ (by rw [h.mlen]; exact hi)] at hj
    rw [getD_set _ _ _ _ _ (by rw [h.len]; exact hi)]
    by_cases e : j = i
    · rw [if_pos e] at hj; cases hj
    · rw [if_neg e] at hj ⊢; exact h.no j hj
  · rw [getD_set _ _ _ _ _ (by rw [h.mlen]; exact hi)] at hj
    rw [getD_set _ _ _ _ _ (by rw [h.len]; exact hi)]
    by_cases e : j = i
    · rw [if_pos e]; subst e; exact ⟨k, k0, k8, by rw [h.no j hm]⟩
    · rw [if_neg e] at hj ⊢; exact h.yes j hj
/-- Turning bits over. -/
structure Flips (B : Nat) (W0 w : World) (rg : Nat) (A : Option Addr) (m c : Nat) (x : ReelV) (AM : Option Addr) (nb cM : Nat) (A10 : Option Addr) (c10 : Nat) (lines : List ByteArray) (y : ReelV) (met : List Bool) : Prop where
  reel : ReelIs B w rg A m c y
  fl : Flipped x.b y.b met
  off : y.off = false
  met : Kd.bool.R 4 w B (fun _ => True) (.slice AM nb cM) met
  sure : Kd.string.R 9 w B (fun _ => True) (.slice A10 lines.length c10) lines
  tabs : Tabs w
  bel : Below B W0 w
theorem Flips.below {W0 w w' : World} {rg : Nat} {A : Option Addr} {m c : Nat} {x : ReelV} {AM : Option Addr} {nb cM : Nat} {A10 : Option Addr} {c10 : Nat} {lines : List ByteArray} {y : ReelV} {met : List Bool} (h : Flips B W0 w rg A m c x AM nb cM A10 c10 lines y met) (hb : Below w.heap.size w w') (h9 : 9 ≤ B) : Flips B W0 w' rg A m c x AM nb cM A10 c10 lines y met :=
  ⟨h.reel.below hb, h.fl, h.off, Kd.R_below h.met hb, Kd.R_below h.sure hb, h.tabs.below (hb.mono (by have := h.reel.low; have := blk_lt h.reel.rc; omega)) h9, h.bel.trans (hb.mono (by have := h.reel.low; have := blk_lt h.reel.rc; omega))⟩
section
set_option maxRecDepth 100000
set_option maxHeartbeats 2000000
theorem equal_rows {W : World} {A A' : Option Addr} {n c m d : Nat} {xs ys : List ByteArray} {b1 b2 : Nat} {k1 k2 : Nat → Prop} (h1 : Kd.string.R 9 W b1 k1 (.slice A n c) xs) (h2 : Kd.string.R 9 W b2 k2 (.slice A' m d) ys) (hx : xs.length ≤ 1000000) (hy : ys.length ≤ 1000000) :
    Calls Tryz.prog 20 #[.slice A n c, .slice A' m d] W fun e w' => e = .returned (.bool (decide (xs = ys))) ∧ ∃ q, w' = W.drewN q := by
  obtain ⟨hn, _, _⟩ := Kd.R_reads' h1
  obtain ⟨hm, _, _⟩ := Kd.R_reads' h2
  subst hn hm
  by_cases hxe : xs = []
  · subst hxe
    refine (Tryz.slices_Equal_string_empty A A' c ys.length d W (by omega)).mono fun e w' hw => ?_
    obtain ⟨rfl, rfl⟩ := hw
    refine ⟨?_, 0, rfl⟩
    have : decide (ys.length = 0) = decide (([] : List ByteArray) = ys) := decide_eq_decide.2 ⟨fun h => (List.length_eq_zero_iff.1 h).symm, fun h => by rw [← h]; rfl⟩
    rw [this]
  · by_cases hye : ys = []
    · subst hye
      refine (Tryz.slices_Equal_string_lens A A' xs.length c 0 d W (fun e => hxe (List.length_eq_zero_iff.1 e))).mono fun e w' hw => ?_
      obtain ⟨rfl, rfl⟩ := hw
      exact ⟨by rw [decide_eq_false hxe], 0, rfl⟩
    · obtain ⟨g, cap, e, _⟩ := Kd.R_form h1 (List.length_pos_iff.2 hxe)
      injection e with e _ _
      subst e
      obtain ⟨g2, cap2, e, _⟩ := Kd.R_form h2 (List.length_pos_iff.2 hye)
      injection e with e _ _
      subst e
      refine (Tryz.slices_Equal_string g 0 xs.length c g2 0 ys.length d xs ys W (Nat.le_refl _) (Nat.le_refl _) (by omega) (by omega) (fun j hj => by
        have hc := (Kd.R_celln ByteArray.empty h1 (j : Int) (by omega) (by omega)).1
        simpa [rdOf] using hc) (fun j hj => by
        have hc := (Kd.R_celln ByteArray.empty h2 (j : Int) (by omega) (by omega)).1
        simpa [rdOf] using hc)).mono fun e w' hw => ?_
      rw [List.take_length, List.take_length] at hw
      exact hw
end
end Go.Proofs.YtoeeipkiadbnpaaGreatDoor.Lib10
end

section
namespace Go.Proofs.YtoeeipkiadbnpaaGreatDoor.Lib10
open Go.RowKit Go.Proofs.YtoeeipkiadbnpaaGreatDoorW.PrintWords Go.Proofs.YtoeeipkiadbnpaaGreatDoorW.PrintLast Go.Proofs.YtoeeipkiadbnpaaGreatDoorW.PrintMore
set_option linter.unusedVariables false
def toldV (word : ByteArray) (l : List Int) : ByteArray := l.foldl (fun o n => o ++ (⟨#[32]⟩ ++ itoaB n)) word
theorem toldV_snoc (word : ByteArray) (l : List Int) (n : Int) : toldV word (l ++ [n]) = toldV word l ++ (⟨#[32]⟩ ++ itoaB n) := by simp [toldV]
section
set_option maxRecDepth 100000
set_option maxHeartbeats 2000000
theorem told_calls {W : World} {A : Option Addr} {c : Nat} {word : ByteArray} {l : List Int} (hC : (Kd.int .i64).C W A l.length l) (hc : l.length ≤ c) (hb : ∀ x ∈ l, -9223372036854775808 ≤ x ∧ x ≤ 9223372036854775807) (hl : l.length ≤ 1000) (hw : word.size ≤ 1000000) (hT : Tabs W) :
    Calls Tryz.prog 81 #[.int .i64 0, .string word, .slice A l.length c] W fun e w' => e = .returned (.tuple #[.string (toldV word l), .int .i64 0]) ∧ (toldV word l).size ≤ word.size + 30 * l.length ∧ Below W.heap.size W w' := by
  have HC := Aside0.mk hC
  have HX := Aside0.mk hb
  have HT := Aside0.mk hT
  obtain ⟨n, hn⟩ : ∃ n, n = l.length := ⟨_, rfl⟩
  rw [← hn]
  rw [← hn] at hc hl
  have HN := Aside0.mk hn
  clear hC hb hT hn
  go_enter Tryz.func81, Tryz.ntmps81
  go_wp2_with (fail)
  go_loopw [1, 15] (fun v1 v15 wr => ∃ k : Nat, k ≤ n ∧ v15 = .int .i64 k ∧ v1 = .string (toldV word (l.take k)) ∧ Aside0 ((toldV word (l.take k)).size ≤ word.size + 30 * k) ∧ Aside0 (Below W.heap.size W wr)) (fun _ v15 _ => n - (intOf v15).toNat)
  case atStart => exact ⟨0, Nat.zero_le _, rfl, rfl, ⟨by rw [List.take_zero]; exact Nat.le_refl _⟩, ⟨Below.refl _ _⟩⟩
  case round =>
    obtain ⟨k, hk, rfl, rfl, hsz, hbl⟩ := hrel
    obtain ⟨sv, hsv⟩ : ∃ sv, sv = toldV word (l.take k) := ⟨_, rfl⟩
    rw [← hsv] at hsz ⊢
    have HSV := Aside0.mk hsv
    clear hsv
    have hszk := hsz.out
    by_cases hkn : k < n
    · have i0 : (0 : Int) ≤ (k : Int) := by omega
      have i1 : (k : Int) < (n : Int) := by omega
      have hkl : k < l.length := by rw [← HN.out]; exact hkn
      obtain ⟨x, hx⟩ : ∃ x, x = l[k] := ⟨_, rfl⟩
      have hxb := HX.out x (by rw [hx]; exact List.getElem_mem hkl)
      obtain ⟨ad, he, hcx⟩ := Kd.at_int (Kd.C_below HC.out hbl.out) (k : Int) i0 (by omega)
      cases he
      have h1 : rd l (k : Int) = x := by
        rw [hx]
        show l.getD (k : Int).toNat 0 = _
        rw [Int.toNat_natCast, List.getD_eq_getElem?_getD, List.getElem?_eq_getElem hkl]
        rfl
      rw [h1, Int.toNat_natCast] at hcx
      have HX1 := Aside0.mk hx
      have HI := Aside0.mk (itoa_calls x wr (HT.out.below hbl.out HT.out.low) hxb.1 hxb.2)
      have hil := Lib.itoa_length_le x hxb.1 hxb.2
      clear h1 hx hxb
      replace i0 := eq_true i0
      replace i1 := eq_true i1
      go_wp2_with (go_at_call 16; refine HI.out.mono ?_; rintro e w5 ⟨rfl, hb5⟩; have HB5 := Aside0.mk hb5; clear hb5)
      have e1 : sv ++ (⟨#[32]⟩ ++ ⟨(Lib.itoa x).toArray⟩) = toldV word (l.take (k + 1)) := by
        rw [List.take_add_one, List.getElem?_eq_getElem hkl, Option.toList_some, toldV_snoc, ← HSV.out, HX1.out]
        rfl
      refine ⟨⟨k + 1, by omega, by first | rfl | simp, by rw [e1], ⟨?_⟩, ⟨hbl.out.trans (HB5.out.mono hbl.out.size)⟩⟩, by simp [intOf]; omega⟩
      rw [← e1]
      simp only [ByteArray.size_append]
      have : (⟨(Lib.itoa x).toArray⟩ : ByteArray).size = (Lib.itoa x).length := by show (Lib.itoa x).toArray.size = _; simp
      have h32 : (⟨#[32]⟩ : ByteArray).size = 1 := rfl
      omega
    · have i1 : ¬ (k : Int) < (n : Int) := by omega
      have hkn2 : k = n := by omega
      subst hkn2
      go_wp2_with (fail)
      go_ret2
      have h1 : l.take k = l := List.take_of_length_le (by rw [HN.out]; exact Nat.le_refl _)
      rw [HSV.out, h1] at hszk ⊢
      exact ⟨rfl, hszk, hbl.out⟩
end
end Go.Proofs.YtoeeipkiadbnpaaGreatDoor.Lib10
end
