/- Texts that the proof of TopTriads needs, put together in build order by this session's program (wip/tools/claimtrim.py). -/
import Derived.Test.YtolnpamjkhbgeaaDoorTopTriadsM3
import Derived.RangeFuncWrites
import Derived.RangeFuncLeaves
import Derived.RangeFuncNested
import Derived.RangeFuncBound
import Derived.Below
section
namespace Go.Proofs.YtolnpamjkhbgeaaDoor.Range
open Go.RowKit
variable {P : Program}
/-- What an iterator promises: called with a 'yield' whose rounds lead from J pre to J (pre ++ [x]) (or stop with Jx), at values x that are V there, it returns, all S having come, or Sp, a round having stopped it. Its own steps add memory, or write what Wr says. -/
def Iter3 {α : Type} (P : Program) (m : Nat) (gf : Nat) (fst lb : Array Value) (encs : α → Array Value) (Kp Wr : World → World → Prop) (V : List α → α → World → Prop) (S Sp : List α → Prop) (w0 : World) : Prop :=
  ∀ (l : Nat) (J Jx : List α → World → Prop) (W : World), Below w0.heap.size w0 W → (∀ s A B, J s A → Below A.heap.size A B → J s B) → (∀ s A B, Jx s A → Below A.heap.size A B → Jx s B) → (∀ s A B, J s A → Wr A B → J s B) → (∀ s A B, Jx s A → Wr A B → Jx s B) →
    (∀ pre x A, J pre A → V pre x A → YieldAt Fence.wide m P l (encs x) A fun e B =>
      (e = .returned (.bool true) ∧ J (pre ++ [x]) B ∧ Kp A B) ∨ (e = .returned (.bool false) ∧ Jx (pre ++ [x]) B)) →
    J [] W →
    Calls P gf (fst ++ #[.func (.yield l) #[] #[]] ++ lb) W fun e B => (∃ v, e = .returned v) ∧ ((∃ xs, S xs ∧ J xs B) ∨ (∃ pre, Sp pre ∧ Jx pre B))

/-- The loop's record is written, nothing that is a variable's. -/
def Noted (B : Nat) (W W' : World) : Prop := ∃ (l : Nat) (o o' : Obj), B ≤ l ∧ W.heap[l]? = some o ∧ o.isCells = false ∧ W' = W.putObj l o'

/-- How a round may be left. -/
def roundEnd {α : Type} (Kp : World → World → Prop) (I : List α → World → Prop) (Ix : Code → List α → World → Prop) (xs : List α) (W : World) : Exit → Act → World → Prop
  | .normal, _, W' => KeepsOthers W W' ∧ Kp W W' ∧ I xs W'
  | .ret, _, W' => KeepsOthers W W' ∧ Ix .ret xs W'
  | .exit id, _, W' => KeepsOthers W W' ∧ Ix (.exit id) xs W'
  | _, _, _ => False

theorem wp_range3 {α : Type} {n : Nat} {g : Operand} {ps : Array Tmp} {assign body : Code} {Q : Exit → Act → World → Prop} {a : Act} {w : World}
    {gf : Nat} {fst lb : Array Value} (hg : a.eval g = .func (.func gf) fst lb) (eg : ∀ args w, (callFunc gf args).run P w = .ok (.enter gf args) w)
    {encs : α → Array Value} {Kp Wr : World → World → Prop} {V : List α → α → World → Prop} {S Sp : List α → Prop} {w0 : World} (hit : Iter3 P (n - 1 - 1) gf fst lb encs Kp Wr V S Sp w0) (hb0 : Below w0.heap.size w0 w)
    (hKt : ∀ {A B C : World}, Kp A B → Kp B C → Kp A C) (hKn : ∀ {A B : World}, Noted w.heap.size A B → Kp A B) (hps : ∀ x, (encs x).size = ps.size)
    (I : List α → World → Prop) (Ix : Code → List α → World → Prop)
    (hI : ∀ s A B, I s A → Below A.heap.size A B → I s B) (hIn : ∀ s A B, I s A → Noted w.heap.size A B → I s B)
    (hX : ∀ c s A B, Ix c s A → Below A.heap.size A B → Ix c s B) (hXn : ∀ c s A B, Ix c s A → Noted w.heap.size A B → Ix c s B)
    (hWk : ∀ A B i, Wr A B → w.heap.size ≤ i → B.heap[i]? = A.heap[i]?) (hIw : ∀ s A B, I s A → Wr A B → I s B) (hXw : ∀ c s A B, Ix c s A → Wr A B → Ix c s B)
    (h0 : I [] w) (a₁ : α → Act)
    (hassign : ∀ (l : Nat) (x : α) (W : World) (K : Act → World → Prop), K (a₁ x) W →
      assign.wpIn (Fence.wide.inRound l) (n - 1 - 1) P (Exit.then K (fun _ _ _ => False)) { tmps := (ps.zip (encs x)).foldl (fun t (p, v) => t.setIfInBounds p v) a.tmps, defers := [] } W)
    (hbody : ∀ (l : Nat) (pre : List α) (x : α) (W W' : World), I pre W → V pre x W → Noted w.heap.size W W' → I pre W' → body.wpIn (Fence.wide.inRound l) (n - 1 - 1) P (roundEnd Kp I Ix (pre ++ [x]) W') (a₁ x) W')
    (hdone : ∀ (D : Nat) (xs : List α) (W : World), w.heap.size ≤ D → S xs → I xs W → W.heap[D]? = some (.deferred (some [])) → Q .normal { a with defers := { target := .collected D, args := #[] } :: a.defers } W)
    (hstop : ∀ (D : Nat) (c : Code) (pre : List α) (W : World), w.heap.size ≤ D → Sp pre → Ix c pre W → W.heap[D]? = some (.deferred (some [])) → c.wpIn Fence.wide n P Q { a with defers := { target := .collected D, args := #[] } :: a.defers } W) :
    (Code.rangeFunc g ps assign body).wpIn Fence.wide n P Q a w := by
  refine wpIn_rangeFunc ?_
  intro fn hfn
  -- the loop's record, by its state and the jump that is pending
  let rec_ : LoopState → Option Code → Loop := fun st pe => { state := st, pending := pe, fn, tmps := a.tmps, params := ps, assign, body, defers := w.heap.size }
  let L := w.heap.size + 1
  obtain ⟨W1, hW1⟩ : ∃ W1, (w.alloc (.deferred (some []))).alloc (.loop (rec_ .ready none)) = W1 := ⟨_, rfl⟩
  have hBW : Below w.heap.size w W1 := by rw [← hW1]; exact ((Below.refl _ w).alloc (Nat.le_refl _) _).alloc (by simp) _
  have hrec1 : W1.heap[L]? = some (.loop (rec_ .ready none)) := by
    rw [← hW1]
    have h := World.alloc_heap_new (w.alloc (.deferred (some []))) (.loop (rec_ .ready none))
    rwa [World.size_alloc] at h
  have hdef1 : W1.heap[w.heap.size]? = some (.deferred (some [])) := by
    rw [← hW1]
    exact (Below.heap_alloc _ _ _ (by simp)).trans (World.alloc_heap_new w _)
  -- what goes with the invariant: the record's and the mark's blocks
  let Kept2 : LoopState → Option Code → World → Prop := fun st pe W => W.heap[L]? = some (.loop (rec_ st pe)) ∧ W.heap[w.heap.size]? = some (.deferred (some []))
  have k2_below : ∀ st pe A B, Kept2 st pe A → Below A.heap.size A B → Kept2 st pe B := fun st pe A B h hb =>
    ⟨(hb.block _ (Array.getElem?_eq_some_iff.1 h.1).1).trans h.1, (hb.block _ (Array.getElem?_eq_some_iff.1 h.2).1).trans h.2⟩
  have k2_put : ∀ (W : World) (st st' : LoopState) (pe pe' : Option Code), Kept2 st pe W → Kept2 st' pe' (W.putObj L (.loop (rec_ st' pe'))) := fun W st st' pe pe' h =>
    ⟨World.putObj_heap_same (Array.getElem?_eq_some_iff.1 h.1).1, (World.putObj_heap_other (by show w.heap.size ≠ w.heap.size + 1; omega)).trans h.2⟩
  have noted : ∀ (W : World) (st st' : LoopState) (pe pe' : Option Code), Kept2 st pe W → Noted w.heap.size W (W.putObj L (.loop (rec_ st' pe'))) := fun W st st' pe pe' h =>
    ⟨L, _, _, by show w.heap.size ≤ w.heap.size + 1; omega, h.1, rfl, rfl⟩
  refine ⟨L, [{ target := .collected w.heap.size, args := #[] }], W1, { target := .fn (.func gf) lb, args := fst ++ #[.func (.yield L) #[] #[]] }, W1, gf, fst ++ #[.func (.yield L) #[] #[]] ++ lb, W1, ?enter, ?resolve, fun _ _ => trivial, ?invoke, (fun h => by cases h), callsIn_wide.2 ?_⟩
  case enter => rw [← hW1]; exact run_enterLoop_outer _ _ _ _ _
  case resolve =>
    simp only [resolve, hg]
    simp [go_sem]
  case invoke => simp [invoke, go_sem, eg]
  refine (hit L (fun pre W => I pre W ∧ Kept2 .ready none W) (fun pre W => ∃ c, Ix c pre W ∧ Kept2 .done (some c) W) W1 (hb0.trans (hBW.mono hb0.size))
    (fun s A B h hb => ⟨hI s A B h.1 hb, k2_below _ _ A B h.2 hb⟩) (fun s A B h hb => by obtain ⟨c, h1, h2⟩ := h; exact ⟨c, hX c s A B h1 hb, k2_below _ _ A B h2 hb⟩)
    (fun s A B h hb => ⟨hIw s A B h.1 hb, (hWk A B _ hb (by show w.heap.size ≤ w.heap.size + 1; omega)).trans h.2.1, (hWk A B _ hb (Nat.le_refl _)).trans h.2.2⟩) (fun s A B h hb => by obtain ⟨c, h1, h2⟩ := h; exact ⟨c, hXw c s A B h1 hb, (hWk A B _ hb (by show w.heap.size ≤ w.heap.size + 1; omega)).trans h2.1, (hWk A B _ hb (Nat.le_refl _)).trans h2.2⟩)
    ?rounds ⟨hI _ _ _ h0 hBW, hrec1, hdef1⟩).mono ?behind
  case rounds =>
    rintro pre x W ⟨hi, hk⟩ hv
    have hy := run_yield (P := P) (args := encs x) hk.1 (hps x)
    have hn1 := noted W .ready .busy none none hk
    have hk1 := k2_put W .ready .busy none none hk
    refine ⟨fn, _, assign, body, hy, roundIn_of_wpIn hfn (hassign _ x W _ ⟨_, run_beginRound hk.1 rfl, ?_⟩)⟩
    refine wpIn_mono (hbody _ pre x W _ hi hv hn1 (hIn _ _ _ hi hn1)) ?_
    have ends : ∀ (jump : Option Code) (W3 : World), KeepsOthers (W.putObj L (.loop (rec_ .busy none))) W3 → Kept2 .busy none W3 ∧
        (Instr.endRound L jump).run P W3 = .ok (.bool jump.isNone) (W3.putObj L (.loop (rec_ (if jump.isNone then .ready else .done) jump))) := fun jump W3 h3 => by
      have hk3 : Kept2 .busy none W3 := ⟨h3.same _ _ hk1.1 rfl, h3.same _ _ hk1.2 rfl⟩
      exact ⟨hk3, run_endRound (P := P) jump hk3.1⟩
    rintro e a3 W3 hp
    cases e with
    | normal =>
      obtain ⟨h3, hkp, hi3⟩ := hp
      obtain ⟨hk3, hr⟩ := ends none W3 h3
      have hn3 := noted W3 .busy .ready none none hk3
      exact ⟨_, _, hr, .inl ⟨rfl, ⟨hIn _ _ _ hi3 hn3, k2_put W3 .busy .ready none none hk3⟩, hKt (hKt (hKn hn1) hkp) (hKn hn3)⟩⟩
    | ret =>
      obtain ⟨h3, hi3⟩ := hp
      obtain ⟨hk3, hr⟩ := ends (some .ret) W3 h3
      exact ⟨_, _, hr, .inr ⟨rfl, .ret, hXn _ _ _ _ hi3 (noted W3 .busy .done none (some .ret) hk3), k2_put W3 .busy .done none (some .ret) hk3⟩⟩
    | exit id =>
      obtain ⟨h3, hi3⟩ := hp
      obtain ⟨hk3, hr⟩ := ends (some (.exit id)) W3 h3
      exact ⟨_, _, hr, .inr ⟨rfl, .exit id, hXn _ _ _ _ hi3 (noted W3 .busy .done none (some (.exit id)) hk3), k2_put W3 .busy .done none (some (.exit id)) hk3⟩⟩
    | goto t => exact hp.elim
    | panic ch => exact hp.elim
    | outgrown => exact hp.elim
  case behind =>
    rintro e W2 ⟨⟨v, rfl⟩, (⟨xs, hS, hi, hk⟩ | ⟨pre, hSp, c, hi, hk⟩)⟩
    · have hr := run_endLoop (P := P) hk.1 (by simp [rec_])
      have hn2 := noted W2 .ready .exhausted none none hk
      exact ⟨none, _, hr, hdone _ xs _ (Nat.le_refl _) hS (hIn _ _ _ hi hn2) (k2_put W2 .ready .exhausted none none hk).2⟩
    · have hr := run_endLoop (P := P) hk.1 (by simp [rec_])
      have hn2 := noted W2 .done .exhausted (some c) (some c) hk
      exact ⟨some c, _, hr, hstop _ c pre _ (Nat.le_refl _) hSp (hXn _ _ _ _ hi hn2) (k2_put W2 .done .exhausted (some c) (some c) hk).2⟩

/-- No variable is written. -/
def KeepsCells (A B : World) : Prop := A.heap.size ≤ B.heap.size ∧ ∀ (i : Nat) (o : Obj), A.heap[i]? = some o → o.isCells = true → B.heap[i]? = some o
theorem KeepsCells.trans {A B C : World} (h : KeepsCells A B) (k : KeepsCells B C) : KeepsCells A C := ⟨Nat.le_trans h.1 k.1, fun i o hi ho => k.2 i o (h.2 i o hi ho) ho⟩
theorem KeepsCells.of_below {A B : World} (h : Below A.heap.size A B) : KeepsCells A B := ⟨h.size, fun i _ hi _ => (h.block i (Array.getElem?_eq_some_iff.1 hi).1).trans hi⟩
theorem KeepsCells.of_noted {A B : World} {n : Nat} (h : Noted n A B) : KeepsCells A B := by
  obtain ⟨l, o, o', hl, ho, hc, rfl⟩ := h
  refine ⟨by simp, fun i q hi hq => ?_⟩
  by_cases e : i = l
  · subst e
    rw [ho] at hi
    cases hi
    rw [hc] at hq
    cases hq
  · exact (World.putObj_heap_other (fun h => e h)).trans hi
theorem KeepsCells.cell {A B : World} (h : KeepsCells A B) {a : Addr} {v : Value} (hc : A.cell? a = some v) : B.cell? a = some v := by
  cases ho : A.heap[a.block]? with
  | none => simp [World.cell?, ho] at hc
  | some o =>
    by_cases hq : o.isCells = true
    · exact (World.cell?_of_block ((h.2 _ _ ho hq).trans ho.symm)).trans hc
    · cases o <;> simp_all [World.cell?, Obj.isCells]
open Go.Proofs.YtolnpamjkhbgeaaDoorW.PrintWords in
theorem KeepsCells.reads {A B : World} (h : KeepsCells A B) {k : IntKind} {ad : Option Addr} {n : Nat} {xs : List Int} (hr : Kd.C (Kd.int k) A ad n xs) : Kd.C (Kd.int k) B ad n xs := by
  have h1 := Kd.reads_of_C (enc := Value.int k) (d := (0 : Int)) (h1 := fun _ => rfl) hr
  refine Kd.C_of_reads (enc := Value.int k) (d := (0 : Int)) (h1 := fun _ => rfl) ⟨h1.1, h1.2.1, fun hn => ?_⟩
  obtain ⟨b, e, hc⟩ := h1.2.2 hn
  exact ⟨b, e, fun j hj => h.cell (hc j hj)⟩

theorem below_noted {n B : Nat} {w A A' : World} (h : Below n w A) (hn : n ≤ B) (hs : n ≤ w.heap.size) (k : Noted B A A') : Below n w A' := by
  obtain ⟨l, o, o', hl, ho, hc, rfl⟩ := k
  exact h.grown (grownBy_putObj' A l o') (Nat.le_trans hs h.size) (fun k e => by cases e; omega)
theorem block_noted {B i : Nat} {A A' : World} {o : Obj} (h : A.heap[i]? = some o) (hi : i < B) (k : Noted B A A') : A'.heap[i]? = some o := by
  obtain ⟨l, q, o', hl, ho, hc, rfl⟩ := k
  exact (World.putObj_heap_other (by omega)).trans h
theorem block_below {i : Nat} {A A' : World} {o : Obj} (h : A.heap[i]? = some o) (k : Below A.heap.size A A') : A'.heap[i]? = some o :=
  (k.block i (Array.getElem?_eq_some_iff.1 h).1).trans h

end Go.Proofs.YtolnpamjkhbgeaaDoor.Range
end
