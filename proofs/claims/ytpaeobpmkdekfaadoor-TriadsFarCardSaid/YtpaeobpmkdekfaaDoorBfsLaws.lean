/- More of the search: what has been met has the beginnings of its words met, too; its counts; the same search elsewhere. Plain lists, no program in sight. -/
import Derived.Test.YtpaeobpmkdekfaaDoorCounts
namespace Go.Proofs.YtpaeobpmkdekfaaDoor.Bfs
set_option linter.unusedSectionVars false
variable {T : Type} [DecidableEq T]
/-- Every word but the empty one is a word that has been met and one more step. -/
def Par (L : Met T) : Prop := ∀ q, q ∈ L → q.2 ≠ [] → ∃ p c, p ∈ L ∧ q.2 = p.2 ++ [c]
theorem Par.visit {f : T → UInt8 → T} {p : T × List UInt8} {steps : List UInt8} {L : Met T} (h : Par L) (hp : p ∈ L) : Par (visit f p steps L) := by
  intro q hq hne
  have hsub : ∀ x, x ∈ L → x ∈ Bfs.visit f p steps L := fun x hx => (visit_prefix f p steps L).subset hx
  rcases mem_visit hq with hq | ⟨c, _, rfl⟩
  · obtain ⟨r, c, h1, h2⟩ := h q hq hne
    exact ⟨r, c, hsub r h1, h2⟩
  · exact ⟨p, c, hsub p hp, rfl⟩
theorem Par.go {f : T → UInt8 → T} {steps : List UInt8} : ∀ (k i : Nat) (L : Met T), Par L → Par (go f steps k i L)
  | 0, _, _, h => h
  | k + 1, i, L, h => by
    unfold Bfs.go
    cases hp : L[i]? with
    | none => exact h
    | some p => exact Par.go k (i + 1) _ (h.visit (List.mem_of_getElem? hp))
theorem Par.start (t : T) : Par [(t, ([] : List UInt8))] := by
  intro q hq hne
  obtain rfl : q = (t, []) := by simpa using hq
  exact absurd rfl hne
theorem Par.down {L : Met T} (h : Par L) (e : Nat) : ∀ (m : Nat) (p : T × List UInt8), p ∈ L → p.2.length = e + m → ∃ q, q ∈ L ∧ q.2.length = e
  | 0, p, hp, hl => ⟨p, hp, hl⟩
  | m + 1, p, hp, hl => by
    obtain ⟨q, c, h1, h2⟩ := h p hp (by intro e0; rw [e0] at hl; simp at hl)
    refine Par.down h e m q h1 ?_
    rw [h2, List.length_append] at hl
    simp at hl
    omega
theorem counts_some {L : Met Int} {i : Nat} (h : i < (counts L).length) : ∃ p, p ∈ L ∧ i ≤ p.2.length := by
  apply Classical.byContradiction
  intro hno
  have := counts_top L i (fun p hp => by
    apply Classical.byContradiction
    intro hlt
    exact hno ⟨p, hp, by omega⟩)
  omega
theorem counts_pos {L : Met Int} (hP : Par L) {i : Nat} (h : i < (counts L).length) : 1 ≤ (counts L).getD i 0 := by
  obtain ⟨p, hp, hi⟩ := counts_some h
  obtain ⟨q, hq, hl⟩ := hP.down i (p.2.length - i) p hp (by omega)
  rw [counts_getD]
  have : 0 < L.countP fun p => decide (p.2.length = i) := List.countP_pos_iff.2 ⟨q, hq, decide_eq_true hl⟩
  omega
theorem sum_set : ∀ (o : List Int) (d : Nat), d < o.length → (o.set d (o.getD d 0 + 1)).sum = o.sum + 1
  | [], _, h => by simp at h
  | x :: o, 0, _ => by simp; omega
  | x :: o, d + 1, h => by
    have := sum_set o d (by simpa using h)
    simp only [List.set_cons_succ, List.sum_cons, List.getD_cons_succ]
    omega
theorem sum_zeros (o : List Int) : ∀ m : Nat, (o ++ List.replicate m 0).sum = o.sum
  | 0 => by simp
  | m + 1 => by
    have := sum_zeros o m
    rw [List.sum_append] at this ⊢
    rw [List.replicate_succ, List.sum_cons]
    omega
theorem counts_sum (L : Met Int) : (counts L).sum = (L.length : Int) := by
  have key : ∀ (L : Met Int) (o : List Int), (L.foldl (fun o p => bump o p.2.length) o).sum = o.sum + (L.length : Int) := by
    intro L
    induction L with
    | nil => intro o; simp
    | cons p L ih =>
      intro o
      rw [List.foldl_cons, ih]
      have e : (bump o p.2.length).sum = o.sum + 1 := by
        unfold bump
        rw [sum_set _ _ (by rw [pad_length]; omega)]
        unfold pad
        rw [sum_zeros]
      rw [e, List.length_cons]
      omega
  have := key L []
  simpa [counts] using this
theorem counts_map (g : Int → Int) (L : Met Int) : counts (L.map fun q => (g q.1, q.2)) = counts L := by
  unfold counts
  rw [List.foldl_map]

/-- The search elsewhere, where a map takes steps to steps. -/
theorem known_map {g : T → T} {P : T → Prop} (hi : ∀ x y, P x → P y → g x = g y → x = y) {L : Met T} (hL : ∀ q, q ∈ L → P q.1) {t : T} (ht : P t) : known (L.map fun q => (g q.1, q.2)) (g t) = known L t := by
  rw [Bool.eq_iff_iff, known_iff, known_iff]
  constructor
  · rintro ⟨w, hw⟩
    obtain ⟨q, hq, e⟩ := List.mem_map.1 hw
    have e1 : g q.1 = g t := congrArg Prod.fst e
    refine ⟨q.2, ?_⟩
    rw [← hi _ _ (hL q hq) ht e1]
    exact hq
  · rintro ⟨w, hw⟩
    exact ⟨w, List.mem_map.2 ⟨_, hw, rfl⟩⟩
section
variable {f : T → UInt8 → T} {g : T → T} {P : T → Prop} (hP : ∀ x c, P x → P (f x c)) (hg : ∀ x c, P x → g (f x c) = f (g x) c) (hi : ∀ x y, P x → P y → g x = g y → x = y)
include hP hg hi
theorem put_map {p : T × List UInt8} {L : Met T} (hL : ∀ q, q ∈ L → P q.1) (hp : P p.1) (c : UInt8) : put f (g p.1, p.2) (L.map fun q => (g q.1, q.2)) c = (put f p L c).map fun q => (g q.1, q.2) := by
  unfold put
  simp only
  rw [← hg _ c hp, known_map hi hL (hP _ c hp)]
  split
  · rfl
  · simp
theorem put_P {p : T × List UInt8} {L : Met T} (hL : ∀ q, q ∈ L → P q.1) (hp : P p.1) (c : UInt8) : ∀ q, q ∈ put f p L c → P q.1 := by
  have _ := hg
  have _ := hi
  intro q hq
  rcases mem_put hq with hq | rfl
  · exact hL q hq
  · exact hP _ c hp
theorem visit_map {p : T × List UInt8} (hp : P p.1) : ∀ (steps : List UInt8) (L : Met T), (∀ q, q ∈ L → P q.1) → visit f (g p.1, p.2) steps (L.map fun q => (g q.1, q.2)) = (visit f p steps L).map fun q => (g q.1, q.2)
  | [], _, _ => rfl
  | c :: cs, L, hL => by
    have := visit_map hp cs (put f p L c) (put_P hP hg hi hL hp c)
    rw [← put_map hP hg hi hL hp c] at this
    exact this
theorem visit_P {p : T × List UInt8} (hp : P p.1) : ∀ (steps : List UInt8) (L : Met T), (∀ q, q ∈ L → P q.1) → ∀ q, q ∈ visit f p steps L → P q.1
  | [], _, hL => hL
  | c :: cs, L, hL => visit_P hp cs (put f p L c) (put_P hP hg hi hL hp c)
theorem go_map (steps : List UInt8) : ∀ (k i : Nat) (L : Met T), (∀ q, q ∈ L → P q.1) → go f steps k i (L.map fun q => (g q.1, q.2)) = (go f steps k i L).map fun q => (g q.1, q.2)
  | 0, _, _, _ => rfl
  | k + 1, i, L, hL => by
    rw [go, go, List.getElem?_map]
    cases hp : L[i]? with
    | none => rfl
    | some p =>
      have hpL := hL p (List.mem_of_getElem? hp)
      simp only [Option.map_some]
      rw [visit_map hP hg hi hpL steps L hL]
      exact go_map steps k (i + 1) _ (visit_P hP hg hi hpL steps L hL)
end
end Go.Proofs.YtpaeobpmkdekfaaDoor.Bfs
