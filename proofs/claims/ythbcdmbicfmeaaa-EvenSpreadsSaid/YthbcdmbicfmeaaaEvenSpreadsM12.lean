/- Texts that the proof of EvenSpreads needs, put together in build order by this session's program (wip/tools/claimtrim.py). -/
import Derived.Test.YthbcdmbicfmeaaaEvenSpreadsM3
import Derived.RangeFuncWrites
import Derived.RangeFuncLeaves
import Derived.RangeFuncNested
import Derived.RangeFuncBound
import Derived.Below
section
namespace Go.Proofs.Ythbcdmbicfmeaaa.Range
open Go.RowKit
variable {P : Program}
/-- No variable is written. -/
def KeepsCells (A B : World) : Prop := A.heap.size ≤ B.heap.size ∧ ∀ (i : Nat) (o : Obj), A.heap[i]? = some o → o.isCells = true → B.heap[i]? = some o
theorem KeepsCells.trans {A B C : World} (h : KeepsCells A B) (k : KeepsCells B C) : KeepsCells A C := ⟨Nat.le_trans h.1 k.1, fun i o hi ho => k.2 i o (h.2 i o hi ho) ho⟩
theorem KeepsCells.of_below {A B : World} (h : Below A.heap.size A B) : KeepsCells A B := ⟨h.size, fun i _ hi _ => (h.block i (Array.getElem?_eq_some_iff.1 hi).1).trans hi⟩
theorem KeepsCells.cell {A B : World} (h : KeepsCells A B) {a : Addr} {v : Value} (hc : A.cell? a = some v) : B.cell? a = some v := by
  cases ho : A.heap[a.block]? with
  | none => simp [World.cell?, ho] at hc
  | some o =>
    by_cases hq : o.isCells = true
    · exact (World.cell?_of_block ((h.2 _ _ ho hq).trans ho.symm)).trans hc
    · cases o <;> simp_all [World.cell?, Obj.isCells]
open Go.Proofs.YthbcdmbicfmeaaaW.PrintWords in
theorem KeepsCells.reads {A B : World} (h : KeepsCells A B) {k : IntKind} {ad : Option Addr} {n : Nat} {xs : List Int} (hr : Kd.C (Kd.int k) A ad n xs) : Kd.C (Kd.int k) B ad n xs := by
  have h1 := Kd.reads_of_C (enc := Value.int k) (d := (0 : Int)) (h1 := fun _ => rfl) hr
  refine Kd.C_of_reads (enc := Value.int k) (d := (0 : Int)) (h1 := fun _ => rfl) ⟨h1.1, h1.2.1, fun hn => ?_⟩
  obtain ⟨b, e, hc⟩ := h1.2.2 hn
  exact ⟨b, e, fun j hj => h.cell (hc j hj)⟩

theorem block_below {i : Nat} {A A' : World} {o : Obj} (h : A.heap[i]? = some o) (k : Below A.heap.size A A') : A'.heap[i]? = some o :=
  (k.block i (Array.getElem?_eq_some_iff.1 h).1).trans h

end Go.Proofs.Ythbcdmbicfmeaaa.Range
end
