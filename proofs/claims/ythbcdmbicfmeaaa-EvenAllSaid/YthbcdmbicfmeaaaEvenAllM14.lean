/- Texts that the proof of EvenAll needs, put together in build order by this session's program (wip/tools/claimtrim.py). -/
import Derived.Test.YthbcdmbicfmeaaaEvenAllM12
import Derived.Test.YthbcdmbicfmeaaaEvenAllM11
section
namespace Go.Proofs.Ythbcdmbicfmeaaa.Range
open Go.RowKit
variable {P : Program}
theorem wp_range_at {α : Type} {n : Nat} {g : Operand} {ps : Array Tmp} {assign body : Code} {Q : Exit → Act → World → Prop} {a : Act} {w : World}
    {gf : Nat} {fst lb : Array Value} (hg : a.eval g = .func (.func gf) fst lb) (eg : ∀ args w, (callFunc gf args).run P w = .ok (.enter gf args) w)
    {encs : α → Array Value} {Kp : World → World → Prop} {V : List α → α → World → Prop} {S Sp : List α → Prop} {w0 : World} (hit : Iter P (n - 1 - 1) gf fst lb encs Kp V S Sp w0) (hb0 : Below w0.heap.size w0 w)
    (hKt : ∀ {A B C : World}, Kp A B → Kp B C → Kp A C) (hKn : ∀ {A B : World}, Noted w.heap.size A B → Kp A B) (hps : ∀ x, (encs x).size = ps.size)
    (I : List α → World → Prop) (Ix : Code → List α → World → Prop)
    (hI : ∀ s A B, I s A → Below A.heap.size A B → I s B) (hIn : ∀ s A B, I s A → Noted w.heap.size A B → I s B)
    (hX : ∀ c s A B, Ix c s A → Below A.heap.size A B → Ix c s B) (hXn : ∀ c s A B, Ix c s A → Noted w.heap.size A B → Ix c s B)
    (h0 : I [] w) (a₁ : α → World → Act) (w₁ : α → World → World) (hw₁ : ∀ x W, Below W.heap.size W (w₁ x W)) (hKb : ∀ pre x W, I pre W → Kp W (w₁ x W))
    (hassign : ∀ (l : Nat) (x : α) (W : World) (K : Act → World → Prop), K (a₁ x W) (w₁ x W) →
      assign.wpIn (Fence.wide.inRound l) (n - 1 - 1) P (Exit.then K (fun _ _ _ => False)) { tmps := (ps.zip (encs x)).foldl (fun t (p, v) => t.setIfInBounds p v) a.tmps, defers := [] } W)
    (hbody : ∀ (l : Nat) (pre : List α) (x : α) (W W' : World), I pre W → V pre x W → Noted w.heap.size (w₁ x W) W' → I pre W' → body.wpIn (Fence.wide.inRound l) (n - 1 - 1) P (roundEnd Kp I Ix (pre ++ [x]) W') (a₁ x W) W')
    (hdone : ∀ (D : Nat) (xs : List α) (W : World), w.heap.size ≤ D → S xs → I xs W → W.heap[D]? = some (.deferred (some [])) → Q .normal { a with defers := { target := .collected D, args := #[] } :: a.defers } W)
    (hstop : ∀ (D : Nat) (c : Code) (pre : List α) (W : World), w.heap.size ≤ D → Sp pre → Ix c pre W → W.heap[D]? = some (.deferred (some [])) → c.wpIn Fence.wide n P Q { a with defers := { target := .collected D, args := #[] } :: a.defers } W) :
    (Code.rangeFunc g ps assign body).wpIn Fence.wide n P Q a w := by
  refine wpIn_rangeFunc ?_
  intro fn hfn
  -- the loop's record, by its state and the jump that is pending
  let rec_ : LoopState → Option Code → Loop := fun st pe => { state := st, pending := pe, fn, tmps := a.tmps, params := ps, assign, body, defers := w.heap.size }
  let L := w.heap.size + 1
  obtain ⟨W1, hW1⟩ : ∃ W1, (w.alloc (.deferred (some []))).alloc (.loop (rec_ .ready none)) = W1 := ⟨_, rfl⟩
  have hBW : Below w.heap.size w W1 := by rw [← hW1]; exact ((Below.refl _ w).alloc (Nat.le_refl _) _).alloc (by simp) _
  have hrec1 : W1.heap[L]? = some (.loop (rec_ .ready none)) := by
    rw [← hW1]
    have h := World.alloc_heap_new (w.alloc (.deferred (some []))) (.loop (rec_ .ready none))
    rwa [World.size_alloc] at h
  have hdef1 : W1.heap[w.heap.size]? = some (.deferred (some [])) := by
    rw [← hW1]
    exact (Below.heap_alloc _ _ _ (by simp)).trans (World.alloc_heap_new w _)
  -- what goes with the invariant: the record's and the mark's blocks
  let Kept2 : LoopState → Option Code → World → Prop := fun st pe W => W.heap[L]? = some (.loop (rec_ st pe)) ∧ W.heap[w.heap.size]? = some (.deferred (some []))
  have k2_below : ∀ st pe A B, Kept2 st pe A → Below A.heap.size A B → Kept2 st pe B := fun st pe A B h hb =>
    ⟨(hb.block _ (Array.getElem?_eq_some_iff.1 h.1).1).trans h.1, (hb.block _ (Array.getElem?_eq_some_iff.1 h.2).1).trans h.2⟩
  have k2_put : ∀ (W : World) (st st' : LoopState) (pe pe' : Option Code), Kept2 st pe W → Kept2 st' pe' (W.putObj L (.loop (rec_ st' pe'))) := fun W st st' pe pe' h =>
    ⟨World.putObj_heap_same (Array.getElem?_eq_some_iff.1 h.1).1, (World.putObj_heap_other (by show w.heap.size ≠ w.heap.size + 1; omega)).trans h.2⟩
  have noted : ∀ (W : World) (st st' : LoopState) (pe pe' : Option Code), Kept2 st pe W → Noted w.heap.size W (W.putObj L (.loop (rec_ st' pe'))) := fun W st st' pe pe' h =>
    ⟨L, _, _, by show w.heap.size ≤ w.heap.size + 1; omega, h.1, rfl, rfl⟩
  refine ⟨L, [{ target := .collected w.heap.size, args := #[] }], W1, { target := .fn (.func gf) lb, args := fst ++ #[.func (.yield L) #[] #[]] }, W1, gf, fst ++ #[.func (.yield L) #[] #[]] ++ lb, W1, ?enter, ?resolve, fun _ _ => trivial, ?invoke, (fun h => by cases h), callsIn_wide.2 ?_⟩
  case enter => rw [← hW1]; exact run_enterLoop_outer _ _ _ _ _
  case resolve =>
    simp only [resolve, hg]
    simp [go_sem]
  case invoke => simp [invoke, go_sem, eg]
  refine (hit L (fun pre W => I pre W ∧ Kept2 .ready none W) (fun pre W => ∃ c, Ix c pre W ∧ Kept2 .done (some c) W) W1 (hb0.trans (hBW.mono hb0.size))
    (fun s A B h hb => ⟨hI s A B h.1 hb, k2_below _ _ A B h.2 hb⟩) (fun s A B h hb => by obtain ⟨c, h1, h2⟩ := h; exact ⟨c, hX c s A B h1 hb, k2_below _ _ A B h2 hb⟩)
    ?rounds ⟨hI _ _ _ h0 hBW, hrec1, hdef1⟩).mono ?behind
  case rounds =>
    rintro pre x W ⟨hi, hk⟩ hv
    have hy := run_yield (P := P) (args := encs x) hk.1 (hps x)
    have hka := k2_below _ _ W (w₁ x W) hk (hw₁ x W)
    have hn1 := noted (w₁ x W) .ready .busy none none hka
    have hk1 := k2_put (w₁ x W) .ready .busy none none hka
    refine ⟨fn, _, assign, body, hy, roundIn_of_wpIn hfn (hassign _ x W _ ⟨_, run_beginRound hka.1 rfl, ?_⟩)⟩
    refine wpIn_mono (hbody _ pre x W _ hi hv hn1 (hIn _ _ _ (hI _ _ _ hi (hw₁ x W)) hn1)) ?_
    have ends : ∀ (jump : Option Code) (W3 : World), KeepsOthers ((w₁ x W).putObj L (.loop (rec_ .busy none))) W3 → Kept2 .busy none W3 ∧
        (Instr.endRound L jump).run P W3 = .ok (.bool jump.isNone) (W3.putObj L (.loop (rec_ (if jump.isNone then .ready else .done) jump))) := fun jump W3 h3 => by
      have hk3 : Kept2 .busy none W3 := ⟨h3.same _ _ hk1.1 rfl, h3.same _ _ hk1.2 rfl⟩
      exact ⟨hk3, run_endRound (P := P) jump hk3.1⟩
    rintro e a3 W3 hp
    cases e with
    | normal =>
      obtain ⟨h3, hkp, hi3⟩ := hp
      obtain ⟨hk3, hr⟩ := ends none W3 h3
      have hn3 := noted W3 .busy .ready none none hk3
      exact ⟨_, _, hr, .inl ⟨rfl, ⟨hIn _ _ _ hi3 hn3, k2_put W3 .busy .ready none none hk3⟩, hKt (hKt (hKt (hKb _ x _ hi) (hKn hn1)) hkp) (hKn hn3)⟩⟩
    | ret =>
      obtain ⟨h3, hi3⟩ := hp
      obtain ⟨hk3, hr⟩ := ends (some .ret) W3 h3
      exact ⟨_, _, hr, .inr ⟨rfl, .ret, hXn _ _ _ _ hi3 (noted W3 .busy .done none (some .ret) hk3), k2_put W3 .busy .done none (some .ret) hk3⟩⟩
    | exit id =>
      obtain ⟨h3, hi3⟩ := hp
      obtain ⟨hk3, hr⟩ := ends (some (.exit id)) W3 h3
      exact ⟨_, _, hr, .inr ⟨rfl, .exit id, hXn _ _ _ _ hi3 (noted W3 .busy .done none (some (.exit id)) hk3), k2_put W3 .busy .done none (some (.exit id)) hk3⟩⟩
    | goto t => exact hp.elim
    | panic ch => exact hp.elim
    | outgrown => exact hp.elim
  case behind =>
    rintro e W2 ⟨⟨v, rfl⟩, (⟨xs, hS, hi, hk⟩ | ⟨pre, hSp, c, hi, hk⟩)⟩
    · have hr := run_endLoop (P := P) hk.1 (by simp [rec_])
      have hn2 := noted W2 .ready .exhausted none none hk
      exact ⟨none, _, hr, hdone _ xs _ (Nat.le_refl _) hS (hIn _ _ _ hi hn2) (k2_put W2 .ready .exhausted none none hk).2⟩
    · have hr := run_endLoop (P := P) hk.1 (by simp [rec_])
      have hn2 := noted W2 .done .exhausted (some c) (some c) hk
      exact ⟨some c, _, hr, hstop _ c pre _ (Nat.le_refl _) hSp (hXn _ _ _ _ hi hn2) (k2_put W2 .done .exhausted (some c) (some c) hk).2⟩


end Go.Proofs.Ythbcdmbicfmeaaa.Range
end
