/- Texts that the proof of LibraryHeals needs, put together in build order by this session's program (wip/tools/claimtrim.py). -/
import Derived.Test.YtoeeipkiadbnpaaGreatDoorLibraryHealsM12
import Derived.Test.YtoeeipkiadbnpaaGreatDoorLibraryHealsM21
import Derived.SliceStrings
import Derived.Deep.Slices
import Derived.Test.YtoeeipkiadbnpaaGreatDoorRows
section
namespace Go.Proofs.YtoeeipkiadbnpaaGreatDoor.Lib10
open Go.ChangeShapes Go.WideShapes Go.ChangeAt Go.RowKit Go.Proofs.YtoeeipkiadbnpaaGreatDoorW.PrintWords Go.Proofs.YtoeeipkiadbnpaaGreatDoorW.PrintLast Go.Proofs.YtoeeipkiadbnpaaGreatDoorW.PrintMore
set_option linter.unusedVariables false
theorem bulk_one {H : Type} (d : DataW H) : 1 ≤ Rows.uptoBulk d := by
  cases d with
  | lit l => cases l <;> simp [Rows.uptoBulk]
  | nil => simp [Rows.uptoBulk]
  | ptr d => simp [Rows.uptoBulk]
  | slice elems spare => simp [Rows.uptoBulk]
  | agg parts => simp [Rows.uptoBulk]
  | iface t d => simp [Rows.uptoBulk]
  | map entries => simp [Rows.uptoBulk]
  | held h => simp [Rows.uptoBulk]
theorem bulk_part {H : Type} {d : DataW H} {l : List (DataW H)} (h : d ∈ l) : Rows.uptoBulk d ≤ Rows.uptoBulkAll l := by
  induction l with
  | nil => cases h
  | cons x r ih =>
    simp only [Rows.uptoBulkAll]
    cases List.mem_cons.1 h with
    | inl e => subst e; omega
    | inr e => have := ih e; omega
theorem bulk_length {H : Type} (l : List (DataW H)) : l.length ≤ Rows.uptoBulkAll l := by
  induction l with
  | nil => simp [Rows.uptoBulkAll]
  | cons x r ih => have := bulk_one x; simp only [Rows.uptoBulkAll, List.length_cons]; omega
theorem bulk_elems {H : Type} (elems spare : List (DataW H)) : Rows.uptoBulkAll elems + 1 ≤ Rows.uptoBulk (.slice elems spare) := by
  simp only [Rows.uptoBulk]
  omega
theorem bulk_bound {H : Type} {l : List (DataW H)} (hk : Rows.uptoSmall H l = true) : Rows.uptoBulkAll l ≤ 1048576 := of_decide_eq_true hk
theorem cells9_ : Tryz.prog.cellsOf 9 = 1 := by kernel_rfl
theorem cells3_ : Tryz.prog.cellsOf 3 = 1 := by kernel_rfl
theorem cells48_ : Tryz.prog.cellsOf 48 = 2 := by kernel_rfl
theorem strings_in {H : Type} {enc : TypeId × Value → H} {w : World} {base : Nat} {spare : Nat → Bool} {held : Bool} {A : Option Addr} {n c : Nat} {d : DataW H} {ps : List MemPlace} (h : DataW.Trod enc Tryz.prog w base spare held 22 (.slice A n c) d ps) :
    ∃ l : List ByteArray, n = l.length ∧ l.length ≤ c ∧ Kd.string.C w A l.length l ∧ ∀ x ∈ l, x.size ≤ Rows.uptoBulk d := by
  obtain ⟨fuel, hf⟩ := h
  rcases open_strings Tryz.underlying22 Tryz.underlying9 cells9_ hf with ⟨hcs, hx⟩ | ⟨a, len, cap, ss, hcs, _, hl, hm, hz, hx, hcell, hsz⟩
  · simp [Value.cells] at hcs
    obtain ⟨rfl, rfl, rfl⟩ := hcs
    exact ⟨[], rfl, Nat.le_refl _, Kd.C_nil _ _, fun x hx => by cases hx⟩
  · simp [Value.cells] at hcs
    obtain ⟨rfl, rfl, rfl⟩ := hcs
    simp only [Prod.mk.injEq] at hx
    obtain ⟨rfl, _⟩ := hx
    have hlen : n ≤ ss.length := by rw [hz]; split <;> omega
    have hlt : (ss.take n).length = n := by rw [List.length_take]; omega
    have hmax : maxLen ≤ 9223372036854775807 := by decide
    have hn9 : (ss.take n).length ≤ 9223372036854775807 := by omega
    refine ⟨ss.take n, hlt.symm, by omega, Kd.C_of_reads (enc := Value.string) (h1 := fun _ => rfl) (d := ByteArray.empty) (And.intro rfl (And.intro hn9 (fun _ => ⟨a, rfl, fun j hj => ?_⟩))), fun x hx => ?_⟩
    · rw [hlt] at hj
      rw [hcell j (by omega)]
      simp only [List.getD_eq_getElem?_getD, List.getElem?_take, if_pos hj]
    · have h1 := bulk_elems (H := H) (ChangeShapes.strs (ss.take n)) (ChangeShapes.strs (ss.drop n))
      have h2 : DataW.lit (H := H) (.string x.data.toList) ∈ ChangeShapes.strs (ss.take n) := List.mem_map.2 ⟨x, hx, rfl⟩
      have h3 := bulk_part h2
      have h4 : Rows.uptoBulk (DataW.lit (H := H) (.string x.data.toList)) = x.data.toList.length + 1 := by simp [Rows.uptoBulk]
      have e : x.data.toList.length = x.size := by rw [Array.length_toList]; rfl
      omega
set_option maxRecDepth 100000 in
theorem pairs_in {H : Type} {enc : TypeId × Value → H} {w : World} {base : Nat} {spare : Nat → Bool} {held : Bool} {A : Option Addr} {n c : Nat} {d : DataW H} {ps : List MemPlace} (h : DataW.Trod enc Tryz.prog w base spare held 38 (.slice A n c) d ps) :
    n ≤ Rows.uptoBulk d ∧ ∃ fl : List (Int × Int), fl.length = n ∧ ∀ j p, fl[j]? = some p → ∃ ad, A = some ad ∧ w.cell? (ad.add (j * 2)) = some (.int .i64 p.1) ∧ w.cell? (ad.add (j * 2 + 1)) = some (.int .i64 p.2) := by
  obtain ⟨fuel, hf⟩ := h
  rcases Go.Deep.open_slice Tryz.underlying38 hf with ⟨hcs, hx⟩ | ⟨a, len, cap, m, k, D, Pl, hcs, _, hl, hm, hmm, hx, hcell⟩
  · simp [Value.cells] at hcs
    obtain ⟨rfl, rfl, rfl⟩ := hcs
    exact ⟨Nat.zero_le _, [], rfl, fun j p hp => by cases hp⟩
  · simp [Value.cells] at hcs
    obtain ⟨rfl, rfl, rfl⟩ := hcs
    simp only [Prod.mk.injEq] at hx
    obtain ⟨rfl, _⟩ := hx
    have hnm : n ≤ m := by rw [hmm]; split <;> omega
    refine ⟨?_, ?_⟩
    · have h1 := bulk_elems (H := H) ((List.range n).map D) ((List.range (m - n)).map fun j => D (n + j))
      have h2 := bulk_length ((List.range n).map D)
      rw [List.length_map, List.length_range] at h2
      omega
    · have each : ∀ i, i < n → ∃ p : Int × Int, w.cell? (a.add (i * 2)) = some (.int .i64 p.1) ∧ w.cell? (a.add (i * 2 + 1)) = some (.int .i64 p.2) := by
        intro i hi
        obtain ⟨cs, h1, h2⟩ := hcell i (by omega)
        rw [cells48_] at h1
        obtain ⟨_, hl2, hc⟩ := World.cells?_some h1
        obtain ⟨xs, q, _, _, _, hxl, he⟩ := DataW.trod_array Tryz.underlying48 h2
        match cs, hl2 with
        | [u0, u1], _ =>
          match xs, hxl with
          | [y0, y1], _ =>
            have g0 := he 0 (by omega)
            have g1 := he 1 (by omega)
            simp [cells3_] at g0 g1
            obtain ⟨z0, e0, _, _⟩ := DataW.trod_int Tryz.underlying3 g0
            obtain ⟨z1, e1, _, _⟩ := DataW.trod_int Tryz.underlying3 g1
            simp at e0 e1
            subst e0 e1
            have c0 := hc 0 (by omega)
            have c1 := hc 1 (by omega)
            rw [Addr.add_add] at c0 c1
            exact ⟨(z0, z1), c0.trans rfl, c1.trans rfl⟩
      refine ⟨(List.range n).map fun i => if hi : i < n then Classical.choose (each i hi) else (0, 0), by simp, fun j p hp => ?_⟩
      rw [List.getElem?_map] at hp
      have hj : j < n := by
        by_cases hj : j < n
        · exact hj
        · rw [List.getElem?_eq_none (by simp; omega)] at hp; cases hp
      rw [List.getElem?_range hj] at hp
      simp only [Option.map_some, dif_pos hj, Option.some.injEq] at hp
      subst hp
      exact ⟨a, rfl, (Classical.choose_spec (each j hj)).1, (Classical.choose_spec (each j hj)).2⟩
end Go.Proofs.YtoeeipkiadbnpaaGreatDoor.Lib10
end
