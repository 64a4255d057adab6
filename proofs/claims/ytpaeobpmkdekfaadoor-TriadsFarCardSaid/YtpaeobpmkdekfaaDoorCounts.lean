/- How many of some words have how many letters: a list of counts that grows with them, whatever their order. Plain lists, no program in sight. -/
import Derived.Test.YtpaeobpmkdekfaaDoorBfs
namespace Go.Proofs.YtpaeobpmkdekfaaDoor.Bfs
/-- Zeros at the end, as far as place d. -/
def pad (o : List Int) (d : Nat) : List Int := o ++ List.replicate (d + 1 - o.length) 0
/-- One more at place d. -/
def bump (o : List Int) (d : Nat) : List Int := (pad o d).set d ((pad o d).getD d 0 + 1)
def counts (L : Met Int) : List Int := L.foldl (fun o p => bump o p.2.length) []
theorem counts_snoc (L : Met Int) (p : Int × List UInt8) : counts (L ++ [p]) = bump (counts L) p.2.length := by
  unfold counts
  rw [List.foldl_append]
  rfl
theorem pad_length (o : List Int) (d : Nat) : (pad o d).length = max o.length (d + 1) := by
  unfold pad
  rw [List.length_append, List.length_replicate]
  omega
theorem bump_length (o : List Int) (d : Nat) : (bump o d).length = max o.length (d + 1) := by
  unfold bump
  rw [List.length_set, pad_length]
theorem pad_getD (o : List Int) (d i : Nat) : (pad o d).getD i 0 = o.getD i 0 := by
  unfold pad
  simp only [List.getD_eq_getElem?_getD]
  by_cases h : i < o.length
  · rw [List.getElem?_append_left h]
  · rw [List.getElem?_append_right (by omega), List.getElem?_eq_none (l := o) (by omega), List.getElem?_replicate]
    split <;> rfl
theorem bump_getD (o : List Int) (d i : Nat) : (bump o d).getD i 0 = o.getD i 0 + if i = d then 1 else 0 := by
  unfold bump
  have hl := pad_length o d
  by_cases h : i = d
  · subst h
    rw [if_pos rfl, List.getD_eq_getElem?_getD, List.getElem?_set_self (by omega)]
    show (pad o i).getD i 0 + 1 = _
    rw [pad_getD]
  · rw [if_neg h, List.getD_eq_getElem?_getD, List.getElem?_set_ne (fun e => h e.symm), ← List.getD_eq_getElem?_getD, pad_getD]
    omega
theorem getD_ext {o q : List Int} (hl : o.length = q.length) (h : ∀ i, o.getD i 0 = q.getD i 0) : o = q := by
  apply List.ext_getElem hl
  intro i h1 h2
  have := h i
  rw [List.getD_eq_getElem?_getD, List.getD_eq_getElem?_getD, List.getElem?_eq_getElem h1, List.getElem?_eq_getElem h2] at this
  exact this
theorem bump_comm (o : List Int) (d e : Nat) : bump (bump o d) e = bump (bump o e) d := by
  refine getD_ext ?_ ?_
  · simp only [bump_length]
    omega
  · intro i
    simp only [bump_getD]
    omega
theorem counts_perm {L M : Met Int} (h : L.Perm M) : counts L = counts M := by
  have key : ∀ (L M : Met Int), L.Perm M → ∀ o : List Int, L.foldl (fun o p => bump o p.2.length) o = M.foldl (fun o p => bump o p.2.length) o := by
    intro L M h
    induction h with
    | nil => intro o; rfl
    | cons x _ ih => intro o; exact ih _
    | swap x y l =>
      intro o
      simp only [List.foldl_cons]
      rw [bump_comm]
    | trans _ _ ih1 ih2 => intro o; rw [ih1, ih2]
  exact key L M h []
theorem counts_getD (L : Met Int) (i : Nat) : (counts L).getD i 0 = ((L.countP fun p => decide (p.2.length = i)) : Nat) := by
  have key : ∀ (L : Met Int) (o : List Int), (L.foldl (fun o p => bump o p.2.length) o).getD i 0 = o.getD i 0 + ((L.countP fun p => decide (p.2.length = i)) : Nat) := by
    intro L
    induction L with
    | nil => intro o; simp
    | cons p L ih =>
      intro o
      rw [List.foldl_cons, ih, bump_getD, List.countP_cons]
      by_cases h : p.2.length = i
      · subst h; simp; omega
      · rw [if_neg (fun e => h e.symm), decide_eq_false h]; simp
  have := key L []
  simpa [counts] using this
theorem counts_nonneg (L : Met Int) (i : Nat) : 0 ≤ (counts L).getD i 0 ∧ (counts L).getD i 0 ≤ L.length := by
  rw [counts_getD]
  have := List.countP_le_length (p := fun p : Int × List UInt8 => decide (p.2.length = i)) (l := L)
  omega
theorem counts_length (L : Met Int) : ∀ p, p ∈ L → p.2.length < (counts L).length := by
  have key : ∀ (L : Met Int) (o : List Int), o.length ≤ (L.foldl (fun o p => bump o p.2.length) o).length ∧ ∀ p, p ∈ L → p.2.length < (L.foldl (fun o p => bump o p.2.length) o).length := by
    intro L
    induction L with
    | nil => intro o; simp
    | cons q L ih =>
      intro o
      obtain ⟨h1, h2⟩ := ih (bump o q.2.length)
      rw [bump_length] at h1
      rw [List.foldl_cons]
      refine ⟨by omega, ?_⟩
      intro p hp
      rcases List.mem_cons.1 hp with rfl | hp
      · omega
      · exact h2 p hp
  exact (key L []).2
theorem counts_top (L : Met Int) : ∀ m, (∀ p, p ∈ L → p.2.length < m) → (counts L).length ≤ m := by
  have key : ∀ (L : Met Int) (o : List Int) (m : Nat), o.length ≤ m → (∀ p, p ∈ L → p.2.length < m) → (L.foldl (fun o p => bump o p.2.length) o).length ≤ m := by
    intro L
    induction L with
    | nil => intro o m h _; exact h
    | cons q L ih =>
      intro o m h hm
      rw [List.foldl_cons]
      refine ih _ m ?_ (fun p hp => hm p (List.mem_cons_of_mem _ hp))
      rw [bump_length]
      have := hm q List.mem_cons_self
      omega
  intro m hm
  exact key L [] m (Nat.zero_le _) hm
end Go.Proofs.YtpaeobpmkdekfaaDoor.Bfs
