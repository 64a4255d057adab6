/- Texts that the proof of LibraryCodes needs, put together in build order by this session's program (wip/tools/claimtrim.py). -/
import Derived.Test.YtoeeipkiadbnpaaGreatDoorLibraryCodesM20
section
namespace Go.Proofs.YtoeeipkiadbnpaaGreatDoor.Lib10
open Go.RowKit Go.Proofs.YtoeeipkiadbnpaaGreatDoorW.PrintWords Go.Proofs.YtoeeipkiadbnpaaGreatDoorW.PrintLast Go.Proofs.YtoeeipkiadbnpaaGreatDoorW.PrintMore
set_option linter.unusedVariables false
variable {B : Nat}
theorem LibS.grow {W W' : World} {lg sg rg : Nat} {vj : Value} {lines : List ByteArray} {st : St} {row : Option Nat} (h : LibS B W lg sg rg vj lines st) (hg : W.grownBy W' row) (hr : ∀ k, some k = row → (∃ cells, W.heap[k]? = some (.cells cells 9 (0, 0))) ∧ some k ≠ vj.ownBlock) : LibS B W' lg sg rg vj lines st := by
  refine ⟨(hg.block lg (blk_lt h.cells) (fun e => by obtain ⟨⟨cells, hc⟩, _⟩ := hr lg e; exact type_ne hc h.cells (show (9 : Nat) ≠ 77 by decide) rfl)).trans h.cells, h.low, ?_, h.sat.grown hg (fun k hk => by obtain ⟨⟨cells, hc⟩, _⟩ := hr k hk; exact ⟨cells, 9, hc, by decide, by decide⟩), h.good, h.short, h.bk⟩
  have h2 : Kd.string.R 9 W B (fun k => some k = vj.ownBlock) vj lines := by
    refine ⟨fun k hk => hk.symm, ?_⟩
    obtain ⟨_, ho⟩ := h.jr
    exact ho
  exact Kd.R_mono (R_same h2 rfl (fun k hk hl => hg.block k hl (fun e => (hr k e).2 hk))) (fun _ _ => trivial)
/-- A library that does lines while a fuse burns; what was acknowledged lies in a row of its own. -/
structure Burn (B : Nat) (w : World) (lg rg : Nat) (lines : List ByteArray) (st : St) (x : ReelV) (sg : Nat) (vj : Value) (A : Option Addr) (m c : Nat) (v : Value) : Prop where
  reach : Reach lines st
  lib : LibS B w lg sg rg vj lines st
  reel : ReelIs B w rg A m c x
  sure : Kd.string.R 9 w B (fun k => ¬ LF lg vj rg A m c k) v lines
  tabs : Tabs w
theorem LF.lt {W : World} {lg sg rg : Nat} {vj : Value} {lines : List ByteArray} {st : St} {A : Option Addr} {m c : Nat} {x : ReelV} (h1 : LibS B W lg sg rg vj lines st) (h2 : ReelIs B W rg A m c x) : ∀ k, LF lg vj rg A m c k → k < W.heap.size := by
  rintro k ((rfl | hk) | hk)
  · exact blk_lt h1.cells
  · obtain ⟨cells, hc⟩ := own_type h1.jr k hk
    exact blk_lt hc
  · exact (h2.own k hk).2
/-- A change has been done: what was acknowledged still lies there. -/
theorem sure_step {w w' : World} {lg rg : Nat} {vj vj' : Value} {A A' : Option Addr} {m c m' c' : Nat} {v : Value} {lines : List ByteArray} (h : Kd.string.R 9 w B (fun k => ¬ LF lg vj rg A m c k) v lines) (hk : Kept w w' (LF lg vj rg A m c)) (hn : ∀ k, LF lg vj' rg A' m' c' k → LF lg vj rg A m c k ∨ w.heap.size ≤ k) :
    Kd.string.R 9 w' B (fun k => ¬ LF lg vj' rg A' m' c' k) v lines := by
  have h2 : Kd.string.R 9 w B (fun k => ¬ LF lg vj rg A m c k ∧ k < w.heap.size) v lines := by
    refine ⟨fun k hk2 => ⟨h.1 k hk2, ?_⟩, ?_⟩
    · obtain ⟨cells, hc⟩ := own_type h k hk2.symm
      exact blk_lt hc
    · obtain ⟨_, ho⟩ := h
      exact ho
  refine Kd.R_mono (R_same h2 rfl (fun k hk2 hl => hk.2 k hl hk2.1)) (fun k hk2 hf => ?_)
  rcases hn k hf with h3 | h3
  · exact hk2.1 h3
  · have := hk2.2; omega
theorem Burn.do {w : World} {lg rg : Nat} {lines : List ByteArray} {st : St} {x : ReelV} {sg : Nat} {vj : Value} {A : Option Addr} {m c : Nat} {v : Value} (h : Burn B w lg rg lines st x sg vj A m c v) (ho : x.off = false) (hb : x.b = booksV lines) (hB : 9 ≤ B) {line : ByteArray} (hs : line.size < 4294967281) :
    Calls Tryz.prog 15 #[ptr lg, .string line] w fun e w' => e = .returned (.tuple #[.string (libDoV x lines st line).reply, .int .i64 (libDoV x lines st line).err]) ∧ (∃ sg' vj' A' m' c', LibS B w' lg sg' rg vj' (libDoV x lines st line).lines (libDoV x lines st line).st ∧ ReelIs B w' rg A' m' c' (libDoV x lines st line).reel ∧ Kd.string.R 9 w' B (fun k => ¬ LF lg vj' rg A' m' c' k) v lines ∧ Tabs w') ∧ Below B w w' := by
  obtain ⟨A4, c4, rfl⟩ := Kd.R_slice h.lib.jr
  refine (libDo_calls h.lib h.reel h.tabs ho (by rw [h.reel.len.1, hb]) hs).mono fun e w' hw => ?_
  obtain ⟨rfl, ⟨sg', vj', A', m', c', l1, l2, l3⟩, hk, hbl⟩ := hw
  exact ⟨rfl, ⟨sg', vj', A', m', c', l1, l2, sure_step h.sure hk l3, h.tabs.below hbl hB⟩, hbl⟩
theorem add_block (a : Addr) (n : Nat) : (a.add n).block = a.block := by unfold Addr.add; split <;> rfl
/-- Bytes some of which have one bit turned over: which, stands in met. -/
structure Flipped (b0 b : List Int) (met : List Bool) : Prop where
  len : b.length = b0.length
  mlen : met.length = b0.length
  no : ∀ i, met.getD i false = false → b.getD i 0 = b0.getD i 0
  yes : ∀ i, met.getD i false = true → ∃ k, 0 ≤ k ∧ k < 8 ∧ b.getD i 0 = flipB (b0.getD i 0) k
theorem getD_set {α : Type} (l : List α) (i j : Nat) (v d : α) (hi : i < l.length) : (l.set i v).getD j d = if j = i then v else l.getD j d := by
  simp only [List.getD_eq_getElem?_getD, List.getElem?_set]
  by_cases h : j = i
  · subst h; simp [hi]
  · rw [if_neg (fun e => h e.symm), if_neg h]
theorem Flipped.step {b0 b : List Int} {met : List Bool} (h : Flipped b0 b met) {i : Nat} (hi : i < b0.length) {k : Int} (k0 : 0 ≤ k) (k8 : k < 8) (hm : met.getD i false = false) : Flipped b0 (b.set i (flipB (b.getD i 0) k)) (met.set i true) := by
  refine ⟨by rw [List.length_set]; exact h.len, by rw [List.length_set]; exact h.mlen, fun j hj => ?_, fun j hj => ?_⟩
  · rw [getD_set _ _ _ _ _ (by rw [h.mlen]; exact hi)] at hj
    rw [getD_set _ _ _ _ _ (by rw [h.len]; exact hi)]
    by_cases e : j = i
    · rw [if_pos e] at hj; cases hj
    · rw [if_neg e] at hj ⊢; exact h.no j hj
  · rw [getD_set _ _ _ _ _ (by rw [h.mlen]; exact hi)] at hj
    rw [getD_set _ _ _ _ _ (by rw [h.len]; exact hi)]
    by_cases e : j = i
    · rw [if_pos e]; subst e; exact ⟨k, k0, k8, by rw [h.no j hm]⟩
    · rw [if_neg e] at hj ⊢; exact h.yes j hj
/-- Turning bits over. -/
structure Flips (B : Nat) (W0 w : World) (rg : Nat) (A : Option Addr) (m c : Nat) (x : ReelV) (AM : Option Addr) (nb cM : Nat) (A10 : Option Addr) (c10 : Nat) (lines : List ByteArray) (y : ReelV) (met : List Bool) : Prop where
  reel : ReelIs B w rg A m c y
  fl : Flipped x.b y.b met
  off : y.off = false
  met : Kd.bool.R 4 w B (fun _ => True) (.slice AM nb cM) met
  sure : Kd.string.R 9 w B (fun _ => True) (.slice A10 lines.length c10) lines
  tabs : Tabs w
  bel : Below B W0 w
theorem Flips.below {W0 w w' : World} {rg : Nat} {A : Option Addr} {m c : Nat} {x : ReelV} {AM : Option Addr} {nb cM : Nat} {A10 : Option Addr} {c10 : Nat} {lines : List ByteArray} {y : ReelV} {met : List Bool} (h : Flips B W0 w rg A m c x AM nb cM A10 c10 lines y met) (hb : Below w.heap.size w w') (h9 : 9 ≤ B) : Flips B W0 w' rg A m c x AM nb cM A10 c10 lines y met :=
  ⟨h.reel.below hb, h.fl, h.off, Kd.R_below h.met hb, Kd.R_below h.sure hb, h.tabs.below (hb.mono (by have := h.reel.low; have := blk_lt h.reel.rc; omega)) h9, h.bel.trans (hb.mono (by have := h.reel.low; have := blk_lt h.reel.rc; omega))⟩
section
set_option maxRecDepth 100000
set_option maxHeartbeats 2000000
end
end Go.Proofs.YtoeeipkiadbnpaaGreatDoor.Lib10
end

section
namespace Go.Proofs.YtoeeipkiadbnpaaGreatDoor.Lib10
open Go.RowKit Go.Proofs.YtoeeipkiadbnpaaGreatDoorW.PrintWords Go.Proofs.YtoeeipkiadbnpaaGreatDoorW.PrintLast Go.Proofs.YtoeeipkiadbnpaaGreatDoorW.PrintMore
set_option linter.unusedVariables false
section
set_option maxRecDepth 100000
set_option maxHeartbeats 2000000
def ones1 (x : Int) : Int := IntKind.u64.wrap (Go.bits .and .u64 (x / 2) 6148914691236517205 + Go.bits .and .u64 x 6148914691236517205)
def ones2 (x : Int) : Int := IntKind.u64.wrap (Go.bits .and .u64 (x / 4) 3689348814741910323 + Go.bits .and .u64 x 3689348814741910323)
def ones3 (x : Int) : Int := Go.bits .and .u64 (IntKind.u64.wrap (x / 16 + x)) 1085102592571150095
def ones4 (x : Int) : Int := IntKind.u64.wrap (x + x / 256)
def ones5 (x : Int) : Int := IntKind.u64.wrap (x + x / 65536)
def ones6 (x : Int) : Int := IntKind.u64.wrap (x + x / 4294967296)
def onesV (x : Int) : Int := Go.bits .and .i64 (wrap64 (ones6 (ones5 (ones4 (ones3 (ones2 (ones1 x))))))) 127
theorem ones64_calls (x : Int) (W : World) : Calls Tryz.prog 56 #[.int .u64 x] W fun e w' => e = .returned (.int .i64 (onesV x)) ∧ W = w' := by
  go_enter Tryz.func56, Tryz.ntmps56
  go_wp2_with (fail)
  go_ret
  refine ⟨?_, rfl⟩
  exact rfl
theorem ones_calls (x : Int) (W : World) : Calls Tryz.prog 28 #[.int .u64 x] W fun e w' => e = .returned (.int .i64 (onesV x)) ∧ W = w' := by
  go_enter Tryz.func28, Tryz.ntmps28
  go_wp2_with (go_at_call 56; refine (ones64_calls x W).mono ?_; rintro e w' ⟨rfl, rfl⟩)
  go_ret
  exact ⟨rfl, rfl⟩
end
end Go.Proofs.YtoeeipkiadbnpaaGreatDoor.Lib10
end

section
namespace Go.Proofs.YtoeeipkiadbnpaaGreatDoor.Lib10
open Go.RowKit Go.Proofs.YtoeeipkiadbnpaaGreatDoorW.PrintWords Go.Proofs.YtoeeipkiadbnpaaGreatDoorW.PrintLast Go.Proofs.YtoeeipkiadbnpaaGreatDoorW.PrintMore
set_option linter.unusedVariables false
variable {B : Nat}
/-- All lines, each with its end. -/
def allB (lines : List ByteArray) : ByteArray := lines.foldl (fun a s => a ++ (s ++ ⟨#[10]⟩)) ByteArray.empty
theorem allB_snoc (l : List ByteArray) (s : ByteArray) : allB (l ++ [s]) = allB l ++ (s ++ ⟨#[10]⟩) := by unfold allB; rw [List.foldl_append]; rfl
theorem bytesOf_append (a b : ByteArray) : bytesOf (a ++ b) = bytesOf a ++ bytesOf b := by simp [bytesOf]
theorem booksV_all (l : List ByteArray) : booksV l = writtenI (bytesOf (allB l)) := by
  suffices h : ∀ (r : List ByteArray), booksV r.reverse = writtenI (bytesOf (allB r.reverse)) by simpa using h l.reverse
  intro r
  induction r with
  | nil => rfl
  | cons s r ih => rw [List.reverse_cons, booksV_snoc, allB_snoc, bytesOf_append, writtenI_append, ih]; rfl
theorem bytesOf_size (s : ByteArray) : (bytesOf s).length = s.size := by simp [bytesOf]
theorem allB_size (l : List ByteArray) : (booksV l).length = 2 * (allB l).size := by rw [booksV_all, writtenI_length, bytesOf_size]
theorem allB_take (l : List ByteArray) (k : Nat) (s : ByteArray) (h : l[k]? = some s) : allB (l.take (k + 1)) = allB (l.take k) ++ (s ++ ⟨#[10]⟩) := by
  rw [List.take_add_one, h]; exact allB_snoc _ _
theorem allB_le (l : List ByteArray) (k : Nat) : (allB (l.take k)).size ≤ (allB l).size := by
  have h1 := allB_size (l.take k)
  have h2 := allB_size l
  have h3 : booksV l = booksV (l.take k) ++ booksV (l.drop k) := by unfold booksV; rw [← List.flatMap_append, List.take_append_drop]
  rw [h3, List.length_append] at h2
  omega
theorem size_end (y : ByteArray) : (y ++ (⟨#[10]⟩ : ByteArray)).size = y.size + 1 := by rw [ByteArray.size_append]; rfl
/-- The letters that have been met. -/
def CodesOk (cs : List Int) : Prop := cs.length = 16 ∧ ∀ d : Nat, d < 16 → cs.getD d 0 = -1 ∨ cs.getD d 0 = codeF d
theorem getD_setC {α : Type} (l : List α) (i j : Nat) (v d : α) (hi : i < l.length) : (l.set i v).getD j d = if j = i then v else l.getD j d := by
  simp only [List.getD_eq_getElem?_getD, List.getElem?_set]
  by_cases h : j = i
  · subst h; simp [hi]
  · rw [if_neg (fun e => h e.symm), if_neg h]
def boxOf (cs : List Int) : Obj := .cells (cs.map (Value.int .i64)).toArray 62 (0, 0)
theorem writtenI_get : ∀ (bs : List Int) (k : Nat) (b : Int), bs[k]? = some b → (writtenI bs).getD (2 * k) 0 = codeF (lowF b) ∧ (writtenI bs).getD (2 * k + 1) 0 = codeF (b / 16)
  | [], k, b, h => by cases h
  | x :: bs, 0, b, h => by simp at h; subst h; exact ⟨rfl, rfl⟩
  | x :: bs, k + 1, b, h => by
    have ih := writtenI_get bs k b (by simpa using h)
    have e1 : 2 * (k + 1) = 2 * k + 1 + 1 := by omega
    have e : writtenI (x :: bs) = codeF (lowF x) :: codeF (x / 16) :: writtenI bs := rfl
    rw [e, e1]
    exact ih
theorem low_all : ∀ b : Fin 256, Go.bits .and .i64 (wrap64 (b.val : Int)) 15 = lowF (b.val : Int) ∧ wrap64 (b.val : Int) / 16 = ((b.val / 16 : Nat) : Int) ∧ lowF (b.val : Int) = ((b.val % 16 : Nat) : Int) := by decide +kernel
theorem pair_at (lines : List ByteArray) (k : Nat) (hk : k < (allB lines).size) : ∃ d0 d1 : Nat, d0 < 16 ∧ d1 < 16 ∧ Go.bits .and .i64 (wrap64 ((allB lines)[k].toNat : Int)) 15 = (d0 : Int) ∧ wrap64 ((allB lines)[k].toNat : Int) / 16 = (d1 : Int) ∧
    (booksV lines).getD (2 * k) 0 = codeF (d0 : Int) ∧ (booksV lines).getD (2 * k + 1) 0 = codeF (d1 : Int) := by
  obtain ⟨v, hv⟩ : ∃ v : Nat, v = (allB lines)[k].toNat := ⟨_, rfl⟩
  have hv6 : v < 256 := by rw [hv]; exact (allB lines)[k].toNat_lt
  rw [← hv]
  obtain ⟨h1, h2, h3⟩ := low_all ⟨v, hv6⟩
  simp only at h1 h2 h3
  have hb : (bytesOf (allB lines))[k]? = some (v : Int) := by
    rw [hv]
    unfold bytesOf
    simp [hk]
    rfl
  have hw := writtenI_get _ _ _ hb
  rw [← booksV_all, h3] at hw
  refine ⟨v % 16, v / 16, by omega, by omega, by rw [h1, h3], h2, hw.1, ?_⟩
  rw [hw.2]
  congr 1
theorem CodesOk.set {cs : List Int} (h : CodesOk cs) {d : Nat} (hd : d < 16) {x : Int} (hx : x = codeF (d : Int)) : CodesOk (cs.set d x) := by
  refine ⟨by rw [List.length_set]; exact h.1, fun e he => ?_⟩
  rw [getD_setC _ _ _ _ _ (by rw [h.1]; exact hd)]
  by_cases c : e = d
  · rw [if_pos c, c]; exact .inr hx
  · rw [if_neg c]; exact h.2 e he
theorem index16 (f : Nat → Int) (i : Nat) (hi : i < 16) (w : World) : (Instr.index 62 (.agg #[.int .i64 (f 0), .int .i64 (f 1), .int .i64 (f 2), .int .i64 (f 3), .int .i64 (f 4), .int .i64 (f 5), .int .i64 (f 6), .int .i64 (f 7), .int .i64 (f 8), .int .i64 (f 9), .int .i64 (f 10), .int .i64 (f 11), .int .i64 (f 12), .int .i64 (f 13), .int .i64 (f 14), .int .i64 (f 15)]) (.int .i64 (i : Int))).run Tryz.prog w = .ok (.int .i64 (f i)) w := by
  rcases (show i = 0 ∨ i = 1 ∨ i = 2 ∨ i = 3 ∨ i = 4 ∨ i = 5 ∨ i = 6 ∨ i = 7 ∨ i = 8 ∨ i = 9 ∨ i = 10 ∨ i = 11 ∨ i = 12 ∨ i = 13 ∨ i = 14 ∨ i = 15 by omega) with rfl | rfl | rfl | rfl | rfl | rfl | rfl | rfl | rfl | rfl | rfl | rfl | rfl | rfl | rfl | rfl <;> kernel_rfl
theorem slice16 (g i : Nat) (hi : i < 16) (w : World) : (Instr.sliceAt 62 (.pointer (some ⟨g, 0, none⟩)) none (some (.int .i64 (i : Int))) none).run Tryz.prog w = .ok (.slice (some ⟨g, 0, none⟩) i 16) w := by
  rcases (show i = 0 ∨ i = 1 ∨ i = 2 ∨ i = 3 ∨ i = 4 ∨ i = 5 ∨ i = 6 ∨ i = 7 ∨ i = 8 ∨ i = 9 ∨ i = 10 ∨ i = 11 ∨ i = 12 ∨ i = 13 ∨ i = 14 ∨ i = 15 by omega) with rfl | rfl | rfl | rfl | rfl | rfl | rfl | rfl | rfl | rfl | rfl | rfl | rfl | rfl | rfl | rfl <;> kernel_rfl
theorem xor_facts : ∀ d e : Fin 16, IntKind.u64.wrap (Go.bits .xor .i64 (codeF (d.val : Int)) (codeF (e.val : Int))) = Go.bits .xor .i64 (codeF (d.val : Int)) (codeF (e.val : Int)) ∧ (d ≠ e → 4 ≤ onesV (Go.bits .xor .i64 (codeF (d.val : Int)) (codeF (e.val : Int)))) := by decide +kernel
theorem round_end {i j : Nat} (h : j < i) : j + 1 ≤ i ∧ i - ((j : Int) + 1).toNat < i - ((j : Nat) : Int).toNat := by omega
/-- What the law asks of a letter. -/
theorem code_facts : ∀ d : Fin 16, wrap64 (codeF (d.val : Int)) = codeF (d.val : Int) ∧ 0 ≤ codeF (d.val : Int) ∧ codeF (d.val : Int) ≤ 255 ∧ (onesV (codeF (d.val : Int))).tmod 2 = 0 ∧ Go.bits .and .i64 (codeF (d.val : Int) / 8) 1 = Go.bits .and .i64 (d.val : Int) 1 ∧ Go.bits .and .i64 (codeF (d.val : Int) / 32) 7 = (d.val : Int) / 2 := by decide +kernel
/-- The table of letters, and the reel's bytes beside it. -/
structure CB (B : Nat) (W w : World) (g : Nat) (AB : Option Addr) (cB : Nat) (b : List Int) (cs : List Int) : Prop where
  box : w.heap[g]? = some (boxOf cs)
  len : cs.length = 16
  low : B ≤ g
  row : (Kd.int .u8).R 5 w B (fun _ => True) (.slice AB b.length cB) b
  bel : Below B W w
  size : B ≤ w.heap.size
theorem CB.cell {W w : World} {g : Nat} {AB : Option Addr} {cB : Nat} {b cs : List Int} (h : CB B W w g AB cB b cs) {i : Nat} (hi : i < 16) : w.cell? ⟨g, i, none⟩ = some (.int .i64 (cs.getD i 0)) := by
  refine (blk_cell h.box i).trans ?_
  have hl : i < cs.length := by rw [h.len]; exact hi
  simp [hl, List.getD_eq_getElem?_getD]
theorem CB.set {W w : World} {g : Nat} {AB : Option Addr} {cB : Nat} {b cs : List Int} (h : CB B W w g AB cB b cs) (i : Nat) (v : Int) : CB B W (w.setCell ⟨g, i, none⟩ (.int .i64 v)) g AB cB b (cs.set i v) := by
  have hbox : (w.setCell ⟨g, i, none⟩ (.int .i64 v)).heap[g]? = some (boxOf (cs.set i v)) := blk_put h.box i _ (by simp [List.map_set])
  refine ⟨hbox, by rw [List.length_set]; exact h.len, h.low, R_apart h.row rfl (fun k cells hc => Below.heap_setCell _ _ _ _ (type_ne hc h.box (show (5 : Nat) ≠ 62 by decide))), h.bel.setCell h.low _, Nat.le_trans h.low (Nat.le_of_lt (blk_lt hbox))⟩
theorem CB.drew {W w : World} {g : Nat} {AB : Option Addr} {cB : Nat} {b cs : List Int} (h : CB B W w g AB cB b cs) (q : Nat) : CB B W (w.drewN q) g AB cB b cs :=
  ⟨h.box, h.len, h.low, Kd.R_below h.row (drew_below w q), h.bel.trans ((drew_below w q).mono h.size), h.size⟩
theorem wrap_nat (j : Nat) (h : j < 1048576) : wrap64 ((j : Int) + 1) = ((j + 1 : Nat) : Int) := by unfold wrap64; omega
section
set_option maxRecDepth 100000
set_option maxHeartbeats 2000000
theorem codes_walk {W : World} {A : Option Addr} {c : Nat} {l : List ByteArray} (hC : Kd.string.C W A l.length l) (hc : l.length ≤ c) (hs : ∀ x ∈ l, x.size < 4294967281) (hT : Tabs W) :
    Calls Tryz.prog 7 #[.slice A l.length c] W fun e w' => e = .returned (.bool true) ∧ Below W.heap.size W w' := by
  have HO := Aside0.mk (opened_calls hC hc hs hT)
  have HT := Aside0.mk hT
  have h9 := HT.out.low
  clear hC hs hT
  go_enter Tryz.func7, Tryz.ntmps7
  go_wp2_with (first | (go_at_call 11; refine HO.out.mono ?_; rintro e w1 ⟨lg, lines, st, rfl, hrn, hb1⟩; obtain ⟨sg0, vj0, A0, m0, c0, hl0, hr0⟩ := hrn.at_; have HL0 := Aside0.mk hl0; have HR0 := Aside0.mk hr0; have HB1 := Aside0.mk hb1; clear hrn hb1 hl0 hr0) | (go_at_call 12; refine (journal_calls HL0.out).mono ?_; rintro e wj ⟨⟨vJ, rfl, hrJ⟩, hbJ⟩; obtain ⟨AJ, cJ, rfl⟩ := Kd.R_slice hrJ; have HJ := Aside0.mk hrJ; have HBJ := Aside0.mk (HB1.out.trans (hbJ.mono HB1.out.size)); have HRe := Aside0.mk (HR0.out.below hbJ); clear hrJ hbJ))
  clear HO HR0
  have HSh := Aside0.mk (And.intro HL0.out.short (And.intro HL0.out.bk (allB_size lines)))
  have HSm := Aside0.mk (show (allB lines).size ≤ 50000 from by
    have h3 := HSh.out.2.1
    have h4 := HSh.out.2.2
    omega)
  have HJC := Aside0.mk (Kd.R_reads' HJ.out).2.2
  clear HL0 
  go_loopw [6, 31] (fun v6 v31 wr => ∃ (k : Nat), k ≤ lines.length ∧ v31 = .int .i64 k ∧ v6 = .string (allB (lines.take k)) ∧ wj = wr) (fun _ v31 _ => lines.length - (intOf v31).toNat)
  case atStart => exact ⟨0, Nat.zero_le _, rfl, rfl, rfl⟩
  case round =>
    obtain ⟨k, hk, rfl, rfl, rfl⟩ := hrel
    by_cases hlt : k < lines.length
    · have i0 : (0 : Int) ≤ (k : Int) := by omega
      have i1 : (k : Int) < (lines.length : Int) := by omega
      obtain ⟨y, hy⟩ : ∃ y, lines[k]? = some y := ⟨_, List.getElem?_eq_getElem hlt⟩
      obtain ⟨ad, he, hcl⟩ := Kd.at_string HJC.out k i0 (by omega)
      cases he
      have h1 : rdOf ByteArray.empty lines (k : Int) = y := by
        unfold rdOf
        rw [Int.toNat_natCast, List.getD_eq_getElem?_getD, hy]
        rfl
      rw [h1, Int.toNat_natCast] at hcl
      clear h1
      have hle := allB_le lines (k + 1)
      rw [allB_take lines k y hy, ByteArray.size_append, size_end] at hle
      have hbk := HSh.out.2.1
      rw [HSh.out.2.2] at hbk
      have n1 : ¬ (9223372036854775807 < y.size + 1) := by omega
      have n2 : ¬ (9223372036854775807 < (allB (lines.take k)).size + (y.size + 1)) := by omega
      have hw := wrap_nat k (by have := HSh.out.2.1; have := lines_le lines; omega)
      have HW := Aside0.mk hw
      have HY := Aside0.mk hy
      clear hle hbk hw hy
      go_wp2_with (fail)
      refine ⟨⟨k + 1, by omega, by rw [HW.out], by rw [allB_take lines k y HY.out], by first | trivial | rfl⟩, by rw [HW.out]; show lines.length - (((k + 1 : Nat) : Int)).toNat < lines.length - ((k : Nat) : Int).toNat; rw [Int.toNat_natCast, Int.toNat_natCast]; omega⟩
    · have i1 : ¬ (k : Int) < (lines.length : Int) := by omega
      have hkl : k = lines.length := by omega
      subst hkl
      rw [List.take_length]
      have HHa := Aside0.mk (show (mkReel 20000 lines).b.length = 2 * (allB lines).size from HSh.out.2.2)
      have hln : ((((mkReel 20000 lines).b.length : Nat) : Int) != wrap64 (2 * ((allB lines).size : Int))) = false := by
        have h2 : wrap64 (2 * ((allB lines).size : Int)) = ((2 * (allB lines).size : Nat) : Int) := by
          have h3 := HSh.out.2.1
          rw [HSh.out.2.2] at h3
          clear hlt i1
          unfold wrap64
          omega
        rw [h2, HHa.out]
        simp
      go_wp2_with (go_at_call 22; refine (bytes_fresh HRe.out).mono ?_; rintro e wb ⟨⟨vB, rfl, hrB⟩, hbB⟩; obtain ⟨AB, cB, hvB⟩ := Kd.R_slice hrB; subst hvB; have HBb := Aside0.mk hrB; have HBb2 := Aside0.mk (HBJ.out.trans (hbB.mono HBJ.out.size)); clear hrB hbB)
      clear hln
      obtain ⟨w2, hw2⟩ : ∃ w, w = wb.alloc (.cells #[.int .i64 0, .int .i64 0, .int .i64 0, .int .i64 0, .int .i64 0, .int .i64 0, .int .i64 0, .int .i64 0, .int .i64 0, .int .i64 0, .int .i64 0, .int .i64 0, .int .i64 0, .int .i64 0, .int .i64 0, .int .i64 0] 62) := ⟨_, rfl⟩
      have HCB := Aside0.mk (show CB W.heap.size W w2 wb.heap.size AB cB (mkReel 20000 lines).b (List.replicate 16 0) from by
        have hb2 : Below wb.heap.size wb w2 := by rw [hw2]; exact below_alloc (Below.refl _ _) _
        exact ⟨by rw [hw2]; exact blk_new _ _, rfl, HBb2.out.size, Kd.R_lower (Kd.R_mono (Kd.R_below HBb.out hb2) (fun _ _ => trivial)) HBJ.out.size, HBb2.out.trans (hb2.mono HBb2.out.size), (HBb2.out.trans (hb2.mono HBb2.out.size)).size⟩)
      rw [← hw2]
      clear hw2
      go_loopw [48] (fun v48 wr => ∃ (k : Nat) (cs : List Int), k ≤ 16 ∧ v48 = .int .i64 k ∧ (∀ d, d < k → cs.getD d 0 = -1) ∧ Aside0 (CB W.heap.size W wr wb.heap.size AB cB (mkReel 20000 lines).b cs)) (fun v48 _ => 16 - (intOf v48).toNat)
      case atStart => exact ⟨0, _, Nat.zero_le _, rfl, fun d hd => absurd hd (Nat.not_lt_zero d), HCB⟩
      case round =>
        obtain ⟨k, cs, hk, rfl, hm, hcb⟩ := hrel
        have HM := Aside0.mk hm
        clear hm
        by_cases hk16 : k < 16
        · have i0 : (0 : Int) ≤ (k : Int) := by omega
          have i2 : (k : Int) < 16 := by omega
          have hcell := hcb.out.cell hk16
          have hfz := blk_frozen hcb.out.box k
          have HCk := Aside0.mk (hcb.out.set k (-1))
          have HWk := Aside0.mk (wrap_nat k (by omega))
          go_wp2_with (fail)
          refine ⟨⟨k + 1, cs.set k (-1), by omega, by first | rfl | rw [HWk.out], ?_, HCk⟩, by first | (show 16 - ((k : Int) + 1).toNat < 16 - ((k : Nat) : Int).toNat; omega) | rw [HWk.out]; show 16 - (((k + 1 : Nat) : Int)).toNat < 16 - ((k : Nat) : Int).toNat; rw [Int.toNat_natCast, Int.toNat_natCast]; omega⟩
          intro d hd
          rw [getD_setC _ _ _ _ _ (by rw [hcb.out.len]; exact hk16)]
          by_cases e : d = k
          · rw [if_pos e]
          · rw [if_neg e]; exact HM.out d (by omega)
        · have i2 : ¬ (k : Int) < 16 := by omega
          have HOk := Aside0.mk (show CodesOk cs from ⟨hcb.out.len, fun d hd => .inl (HM.out d (by omega))⟩)
          go_wp2_with (fail)
          clear HM i2
          go_loopw [56] (fun v56 wr => ∃ (k : Nat) (cs : List Int), k ≤ (allB lines).size ∧ v56 = .int .i64 k ∧ Aside0 (CodesOk cs) ∧ Aside0 (CB W.heap.size W wr wb.heap.size AB cB (mkReel 20000 lines).b cs)) (fun v56 _ => (allB lines).size - (intOf v56).toNat)
          case atStart => exact ⟨0, _, Nat.zero_le _, rfl, HOk, hcb⟩
          case round =>
            obtain ⟨k, cs, hk, rfl, hok, hcb⟩ := hrel
            by_cases hki : k < (allB lines).size
            · have i0 : (0 : Int) ≤ (k : Int) := by omega
              have i1 : (k : Int) < ((allB lines).size : Int) := by omega
              go_wp2_with (fail)
              go_quiet (fail)
              obtain ⟨d0, d1, hd0, hd1, e0, e1, f0, f1⟩ := pair_at lines k hki
              rw [e0, e1]
              have HF01 := Aside0.mk (And.intro f0 f1)
              obtain ⟨w3, hw3⟩ : ∃ w, w = wr.drewN nq := ⟨_, rfl⟩
              have HC3 := Aside0.mk (show CB W.heap.size W w3 wb.heap.size AB cB (mkReel 20000 lines).b cs from by rw [hw3]; exact hcb.out.drew nq)
              rw [← hw3]
              clear hw3 e0 e1 f0 f1 hcb
              have hk2 := HSm.out
              have hw0 : wrap64 (2 * (k : Int)) = ((2 * k : Nat) : Int) := by
                clear i1 i0
                unfold wrap64
                omega
              have HW0 := Aside0.mk hw0
              have HW1 := Aside0.mk (wrap_nat (2 * k) (by omega))
              have HK1 := Aside0.mk (wrap_nat k (by omega))
              clear hw0 hk2
              go_wp2_with (fail)
              go_loopw [70] (fun v70 wr => ∃ (q : Int) (cs : List Int), 0 ≤ q ∧ q ≤ 2 ∧ v70 = .int .i64 q ∧ Aside0 (CodesOk cs) ∧ Aside0 (CB W.heap.size W wr wb.heap.size AB cB (mkReel 20000 lines).b cs)) (fun v70 _ => (2 - intOf v70).toNat)
              case atStart => exact ⟨0, _, by decide, by decide, rfl, hok, HC3⟩
              case round =>
                obtain ⟨q, cs, hq0, hq2, rfl, hok, hcb⟩ := hrel
                by_cases hq : q = 0
                · subst hq
                  have HOK := Aside0.mk hok.out
                  obtain ⟨x, hx⟩ : ∃ x, x = codeF (d0 : Int) := ⟨_, rfl⟩
                  have hxf := code_facts ⟨d0, hd0⟩
                  simp only at hxf
                  rw [← hx] at hxf
                  obtain ⟨x1, x2, x3, x4, x5, x6⟩ := hxf
                  have hfx := HF01.out.1
                  rw [← hx] at hfx
                  have hrow := (Kd.R_reads' hcb.out.row).2.2
                  obtain ⟨ad, hAB, hcx⟩ := Kd.at_int hrow ((2 * k : Nat) : Int) (by omega) (by have := HSm.out; have := HHa.out; omega)
                  rw [Int.toNat_natCast, show rd (mkReel 20000 lines).b ((2 * k : Nat) : Int) = x from hfx] at hcx
                  subst hAB
                  have hlen : ((2 * k : Nat) : Int) < (((mkReel 20000 lines).b.length : Nat) : Int) := by have := HHa.out; omega
                  have hcd := hcb.out.cell hd0
                  have hw0 := HW0.out
                  have hw1 := HW1.out
                  have ix : ∀ w : World, (Instr.index 48 (.agg #[.int .i64 (d0 : Int), .int .i64 (d1 : Int)]) (.int .i64 0)).run Tryz.prog w = .ok (.int .i64 (d0 : Int)) w := fun _ => by kernel_rfl
                  have HOS := Aside0.mk (hok.out.set hd0 hx)
                  have HCS := Aside0.mk (hcb.out.set d0 x)
                  have hdi : (d0 : Int) < 16 := by omega
                  have hdn : (0 : Int) ≤ (d0 : Int) := by omega
                  have hfz := blk_frozen hcb.out.box d0
                  rcases HOK.out.2 d0 hd0 with he | he
                  · rw [he] at hcd
                    clear he hd0 hd1 hx hfx hrow
                    go_wp2_with (go_at_call 28; refine (ones_calls x wr).mono ?_; rintro e w' ⟨rfl, rfl⟩)
                    exact ⟨⟨1, _, by decide, by decide, rfl, HOS, HCS⟩, by decide⟩
                  · rw [he, ← hx] at hcd
                    clear he hd0 hd1 hx hfx hrow
                    go_wp2_with (go_at_call 28; refine (ones_calls x wr).mono ?_; rintro e w' ⟨rfl, rfl⟩)
                    exact ⟨⟨1, _, by decide, by decide, rfl, HOS, HCS⟩, by decide⟩
                · by_cases hq1 : q = 1
                  · subst hq1
                    have HOK := Aside0.mk hok.out
                    obtain ⟨x, hx⟩ : ∃ x, x = codeF (d1 : Int) := ⟨_, rfl⟩
                    have hxf := code_facts ⟨d1, hd1⟩
                    simp only at hxf
                    rw [← hx] at hxf
                    obtain ⟨x1, x2, x3, x4, x5, x6⟩ := hxf
                    have hfx := HF01.out.2
                    rw [← hx] at hfx
                    have hrow := (Kd.R_reads' hcb.out.row).2.2
                    obtain ⟨ad, hAB, hcx⟩ := Kd.at_int hrow ((2 * k + 1 : Nat) : Int) (by omega) (by have := HSm.out; have := HHa.out; omega)
                    rw [Int.toNat_natCast, show rd (mkReel 20000 lines).b ((2 * k + 1 : Nat) : Int) = x from hfx] at hcx
                    subst hAB
                    replace hcx : wr.cell? { block := ad.block, off := ad.off + (2 * k + 1) } = some (.int .u8 x) := by
                      have e : ad.add (2 * k + 1) = { block := ad.block, off := ad.off + (2 * k + 1) } := by unfold Addr.add; rw [if_neg (by omega)]
                      rwa [e] at hcx
                    have hlen : ((2 * k + 1 : Nat) : Int) < (((mkReel 20000 lines).b.length : Nat) : Int) := by have := HHa.out; omega
                    have hcd := hcb.out.cell hd1
                    have hw0 := HW0.out
                    have hw1 : wrap64 (2 * (k : Int) + 1) = 2 * (k : Int) + 1 := by have h := HW1.out; push_cast at h; exact h
                    have ix : ∀ w : World, (Instr.index 48 (.agg #[.int .i64 (d0 : Int), .int .i64 (d1 : Int)]) (.int .i64 1)).run Tryz.prog w = .ok (.int .i64 (d1 : Int)) w := fun _ => by kernel_rfl
                    have HOS := Aside0.mk (hok.out.set hd1 hx)
                    have HCS := Aside0.mk (hcb.out.set d1 x)
                    have hdi : (d1 : Int) < 16 := by omega
                    have hdn : (0 : Int) ≤ (d1 : Int) := by omega
                    have hfz := blk_frozen hcb.out.box d1
                    rcases HOK.out.2 d1 hd1 with he | he
                    · rw [he] at hcd
                      clear he hd0 hd1 hx hfx hrow
                      go_wp2_with (go_at_call 28; refine (ones_calls x wr).mono ?_; rintro e w' ⟨rfl, rfl⟩)
                      exact ⟨⟨2, _, by decide, by decide, rfl, HOS, HCS⟩, by decide⟩
                    · rw [he, ← hx] at hcd
                      clear he hd0 hd1 hx hfx hrow
                      go_wp2_with (go_at_call 28; refine (ones_calls x wr).mono ?_; rintro e w' ⟨rfl, rfl⟩)
                      exact ⟨⟨2, _, by decide, by decide, rfl, HOS, HCS⟩, by decide⟩
                  · obtain rfl : q = 2 := by omega
                    clear hq hq1 hq0 hq2
                    go_wp2_with (fail)
                    exact ⟨⟨k + 1, cs, by omega, by rw [HK1.out], hok, hcb⟩, by rw [HK1.out]; show (allB lines).size - (((k + 1 : Nat) : Int)).toNat < (allB lines).size - ((k : Nat) : Int).toNat; rw [Int.toNat_natCast, Int.toNat_natCast]; omega⟩
            · have i1 : ¬ (k : Int) < ((allB lines).size : Int) := by omega
              have q0 := hcb.out.cell (i := 0) (by decide)
              have q1 := hcb.out.cell (i := 1) (by decide)
              have q2 := hcb.out.cell (i := 2) (by decide)
              have q3 := hcb.out.cell (i := 3) (by decide)
              have q4 := hcb.out.cell (i := 4) (by decide)
              have q5 := hcb.out.cell (i := 5) (by decide)
              have q6 := hcb.out.cell (i := 6) (by decide)
              have q7 := hcb.out.cell (i := 7) (by decide)
              have q8 := hcb.out.cell (i := 8) (by decide)
              have q9 := hcb.out.cell (i := 9) (by decide)
              have q10 := hcb.out.cell (i := 10) (by decide)
              have q11 := hcb.out.cell (i := 11) (by decide)
              have q12 := hcb.out.cell (i := 12) (by decide)
              have q13 := hcb.out.cell (i := 13) (by decide)
              have q14 := hcb.out.cell (i := 14) (by decide)
              have q15 := hcb.out.cell (i := 15) (by decide)
              go_wp2_with (fail)
              clear i1 q0 q1 q2 q3 q4 q5 q6 q7 q8 q9 q10 q11 q12 q13 q14 q15
              have HIx := Aside0.mk (fun i hi w => index16 (fun i => cs.getD i 0) i hi w)
              go_loopw [122] (fun v122 w2 => ∃ i : Nat, i ≤ 16 ∧ v122 = .int .i64 i ∧ wr = w2) (fun v122 _ => 16 - (intOf v122).toNat)
              case atStart => exact ⟨0, Nat.zero_le _, rfl, rfl⟩
              case round =>
                obtain ⟨i, hi, rfl, rfl⟩ := hrel
                by_cases hi16 : i < 16
                · have ix := fun w => HIx.out i hi16 w
                  simp only [List.getD_eq_getElem?_getD] at ix
                  have i0 : (0 : Int) ≤ (i : Int) := by omega
                  have i1 : (i : Int) < 16 := by omega
                  have sx := fun w => slice16 wb.heap.size i hi16 w
                  go_wp2_with (fail)
                  clear ix sx
                  have HKi := Aside0.mk (wrap_nat i (by omega))
                  go_loopw [129] (fun v129 w2 => ∃ j : Nat, j ≤ i ∧ v129 = .int .i64 j ∧ wr = w2) (fun v129 _ => i - (intOf v129).toNat)
                  case atStart => exact ⟨0, Nat.zero_le _, rfl, rfl⟩
                  case round =>
                    obtain ⟨j, hj, rfl, rfl⟩ := hrel
                    have HKj := Aside0.mk (wrap_nat j (by omega))
                    by_cases hji : j < i
                    · have j0 : (0 : Int) ≤ (j : Int) := by omega
                      have j1 : (j : Int) < (i : Int) := by omega
                      have HEnd := Aside0.mk (round_end hji)
                      have hcj := hcb.out.cell (i := j) (by omega)
                      have hci := hok.out.2 i hi16
                      have hcjj := hok.out.2 j (by omega)
                      have hxf := xor_facts ⟨i, hi16⟩ ⟨j, by omega⟩
                      have hxn := hxf.2 (fun e => by have := congrArg Fin.val e; simp at this; omega)
                      have hxw := hxf.1
                      simp only at hxn hxw
                      rw [List.getD_eq_getElem?_getD] at hci
                      have pi := (code_facts ⟨i, hi16⟩).2.1
                      have pj := (code_facts ⟨j, by omega⟩).2.1
                      simp only at pi pj
                      obtain ⟨ci, hcI⟩ : ∃ c, c = codeF (i : Int) := ⟨_, rfl⟩
                      obtain ⟨cj, hcJ⟩ : ∃ c, c = codeF (j : Int) := ⟨_, rfl⟩
                      rw [← hcI, ← hcJ] at hxn hxw
                      rw [← hcI] at hci pi
                      rw [← hcJ] at hcjj pj
                      clear hxf hcI hcJ
                      rcases hci with e | e <;> rcases hcjj with e2 | e2 <;> rw [e] <;> rw [e2] at hcj <;> clear e e2
                      · go_wp2_with (fail)
                        exact ⟨⟨j + 1, HEnd.out.1, rfl, trivial⟩, HEnd.out.2⟩
                      · go_wp2_with (fail)
                        exact ⟨⟨j + 1, HEnd.out.1, rfl, trivial⟩, HEnd.out.2⟩
                      · go_wp2_with (fail)
                        exact ⟨⟨j + 1, HEnd.out.1, rfl, trivial⟩, HEnd.out.2⟩
                      · obtain ⟨x, hx⟩ : ∃ x, Go.bits .xor .i64 ci cj = x := ⟨_, rfl⟩
                        rw [hx] at hxn hxw
                        obtain ⟨o, ho⟩ : ∃ o, onesV x = o := ⟨_, rfl⟩
                        rw [ho] at hxn
                        have HOn := Aside0.mk ho
                        have i9 : ¬ o < 4 := Int.not_lt.2 hxn
                        clear ho hxn
                        go_wp2_with (go_at_call 28; refine (ones_calls x wr).mono ?_; rintro e w' ⟨rfl, rfl⟩; rw [HOn.out])
                        exact ⟨⟨j + 1, HEnd.out.1, rfl, trivial⟩, HEnd.out.2⟩
                    · have j1 : ¬ (j : Int) < (i : Int) := by omega
                      go_wp2_with (fail)
                      exact ⟨⟨i + 1, by omega, rfl, trivial⟩, by show 16 - ((i : Int) + 1).toNat < 16 - ((i : Nat) : Int).toNat; omega⟩
                · have i1 : ¬ (i : Int) < 16 := by omega
                  go_wp2_with (go_at_call 13; refine (awake_calls wr (HT.out.below hcb.out.bel HT.out.low)).mono ?_; rintro e we ⟨rfl, hbe⟩; have HBe := Aside0.mk (hcb.out.bel.trans (hbe.mono hcb.out.size)); clear hbe)
                  go_ret
                  exact ⟨rfl, HBe.out⟩
end
end Go.Proofs.YtoeeipkiadbnpaaGreatDoor.Lib10
end
