/- Texts that the proof of LibraryChairs needs, put together in build order by this session's program (wip/tools/claimtrim.py). -/
import Derived.Test.YtoeeipkiadbnpaaGreatDoorLibraryChairsM12
import Derived.Test.YtoeeipkiadbnpaaGreatDoorLibraryChairsM20
import Derived.SliceStrings
import Derived.Deep.Slices
import Derived.Test.YtoeeipkiadbnpaaGreatDoorRows
section
namespace Go.Proofs.YtoeeipkiadbnpaaGreatDoor.Lib10
open Go.ChangeShapes Go.WideShapes Go.ChangeAt Go.RowKit Go.Proofs.YtoeeipkiadbnpaaGreatDoorW.PrintWords Go.Proofs.YtoeeipkiadbnpaaGreatDoorW.PrintLast Go.Proofs.YtoeeipkiadbnpaaGreatDoorW.PrintMore
set_option linter.unusedVariables false
theorem bulk_part {H : Type} {d : DataW H} {l : List (DataW H)} (h : d ∈ l) : Rows.uptoBulk d ≤ Rows.uptoBulkAll l := by
  induction l with
  | nil => cases h
  | cons x r ih =>
    simp only [Rows.uptoBulkAll]
    cases List.mem_cons.1 h with
    | inl e => subst e; omega
    | inr e => have := ih e; omega
theorem bulk_elems {H : Type} (elems spare : List (DataW H)) : Rows.uptoBulkAll elems + 1 ≤ Rows.uptoBulk (.slice elems spare) := by
  simp only [Rows.uptoBulk]
  omega
theorem bulk_bound {H : Type} {l : List (DataW H)} (hk : Rows.uptoSmall H l = true) : Rows.uptoBulkAll l ≤ 1048576 := of_decide_eq_true hk
theorem cells9_ : Tryz.prog.cellsOf 9 = 1 := by kernel_rfl
theorem strings_in {H : Type} {enc : TypeId × Value → H} {w : World} {base : Nat} {spare : Nat → Bool} {held : Bool} {A : Option Addr} {n c : Nat} {d : DataW H} {ps : List MemPlace} (h : DataW.Trod enc Tryz.prog w base spare held 22 (.slice A n c) d ps) :
    ∃ l : List ByteArray, n = l.length ∧ l.length ≤ c ∧ Kd.string.C w A l.length l ∧ ∀ x ∈ l, x.size ≤ Rows.uptoBulk d := by
  obtain ⟨fuel, hf⟩ := h
  rcases open_strings Tryz.underlying22 Tryz.underlying9 cells9_ hf with ⟨hcs, hx⟩ | ⟨a, len, cap, ss, hcs, _, hl, hm, hz, hx, hcell, hsz⟩
  · simp [Value.cells] at hcs
    obtain ⟨rfl, rfl, rfl⟩ := hcs
    exact ⟨[], rfl, Nat.le_refl _, Kd.C_nil _ _, fun x hx => by cases hx⟩
  · simp [Value.cells] at hcs
    obtain ⟨rfl, rfl, rfl⟩ := hcs
    simp only [Prod.mk.injEq] at hx
    obtain ⟨rfl, _⟩ := hx
    have hlen : n ≤ ss.length := by rw [hz]; split <;> omega
    have hlt : (ss.take n).length = n := by rw [List.length_take]; omega
    have hmax : maxLen ≤ 9223372036854775807 := by decide
    have hn9 : (ss.take n).length ≤ 9223372036854775807 := by omega
    refine ⟨ss.take n, hlt.symm, by omega, Kd.C_of_reads (enc := Value.string) (h1 := fun _ => rfl) (d := ByteArray.empty) (And.intro rfl (And.intro hn9 (fun _ => ⟨a, rfl, fun j hj => ?_⟩))), fun x hx => ?_⟩
    · rw [hlt] at hj
      rw [hcell j (by omega)]
      simp only [List.getD_eq_getElem?_getD, List.getElem?_take, if_pos hj]
    · have h1 := bulk_elems (H := H) (ChangeShapes.strs (ss.take n)) (ChangeShapes.strs (ss.drop n))
      have h2 : DataW.lit (H := H) (.string x.data.toList) ∈ ChangeShapes.strs (ss.take n) := List.mem_map.2 ⟨x, hx, rfl⟩
      have h3 := bulk_part h2
      have h4 : Rows.uptoBulk (DataW.lit (H := H) (.string x.data.toList)) = x.data.toList.length + 1 := by simp [Rows.uptoBulk]
      have e : x.data.toList.length = x.size := by rw [Array.length_toList]; rfl
      omega
end Go.Proofs.YtoeeipkiadbnpaaGreatDoor.Lib10
end
