/- Texts that the proof of TriadsAlike needs, put together in build order by this session's program (wip/tools/claimtrim.py). -/
section
namespace Go.Proofs.YtpaeobpmkdekfaaDoor.Bfs
variable {T : Type} [DecidableEq T]
abbrev Met (T : Type) := List (T × List UInt8)
/-- Whether something has been met. -/
def known (L : Met T) (t : T) : Bool := L.any fun p => decide (p.1 = t)
theorem known_iff {L : Met T} {t : T} : known L t = true ↔ ∃ w, (t, w) ∈ L := by
  unfold known
  rw [List.any_eq_true]
  constructor
  · rintro ⟨⟨x, w⟩, h, e⟩
    have e' : x = t := of_decide_eq_true e
    exact ⟨w, e' ▸ h⟩
  · rintro ⟨w, h⟩
    exact ⟨_, h, decide_eq_true rfl⟩
theorem known_append {L M : Met T} {t : T} : known (L ++ M) t = (known L t || known M t) := by
  unfold known
  rw [List.any_append]
/-- One more step from one that has been met. -/
def put (f : T → UInt8 → T) (p : T × List UInt8) (L : Met T) (c : UInt8) : Met T := if known L (f p.1 c) = true then L else L ++ [(f p.1 c, p.2 ++ [c])]
def visit (f : T → UInt8 → T) (p : T × List UInt8) (steps : List UInt8) (L : Met T) : Met T := steps.foldl (put f p) L
/-- The search from the one with number i on. -/
def go (f : T → UInt8 → T) (steps : List UInt8) : Nat → Nat → Met T → Met T
  | 0, _, L => L
  | k + 1, i, L => match L[i]? with
    | none => L
    | some p => go f steps k (i + 1) (visit f p steps L)
set_option linter.unusedVariables false
theorem put_prefix (f : T → UInt8 → T) (p : T × List UInt8) (L : Met T) (c : UInt8) : L <+: put f p L c := by
  unfold put
  split
  · exact List.prefix_refl _
  · exact List.prefix_append _ _
theorem visit_prefix (f : T → UInt8 → T) (p : T × List UInt8) : ∀ (steps : List UInt8) (L : Met T), L <+: visit f p steps L
  | [], L => List.prefix_refl _
  | c :: cs, L => (put_prefix f p L c).trans (visit_prefix f p cs (put f p L c))
theorem put_nodup (f : T → UInt8 → T) (p : T × List UInt8) (L : Met T) (c : UInt8) (h : (L.map (·.1)).Nodup) : ((put f p L c).map (·.1)).Nodup := by
  unfold put
  split
  · exact h
  · rename_i hk
    rw [List.map_append, List.nodup_append]
    refine ⟨h, by simp, ?_⟩
    intro x hx y hy e
    subst e
    simp at hy
    subst hy
    obtain ⟨⟨z, w⟩, hz, e⟩ := List.mem_map.1 hx
    refine hk (known_iff.2 ⟨w, ?_⟩)
    rw [← e]
    exact hz
theorem visit_nodup (f : T → UInt8 → T) (p : T × List UInt8) : ∀ (steps : List UInt8) (L : Met T), (L.map (·.1)).Nodup → ((visit f p steps L).map (·.1)).Nodup
  | [], _, h => h
  | c :: cs, L, h => visit_nodup f p cs _ (put_nodup f p L c h)
/-- Whatever is met by a visit. -/
theorem mem_put {f : T → UInt8 → T} {p : T × List UInt8} {L : Met T} {c : UInt8} {q : T × List UInt8} (h : q ∈ put f p L c) : q ∈ L ∨ q = (f p.1 c, p.2 ++ [c]) := by
  unfold put at h
  split at h
  · exact .inl h
  · rcases List.mem_append.1 h with h | h
    · exact .inl h
    · exact .inr (by simpa using h)
theorem mem_visit {f : T → UInt8 → T} {p : T × List UInt8} {q : T × List UInt8} : ∀ {steps : List UInt8} {L : Met T}, q ∈ visit f p steps L → q ∈ L ∨ ∃ c, c ∈ steps ∧ q = (f p.1 c, p.2 ++ [c])
  | [], _, h => .inl h
  | c :: cs, L, h => by
    rcases mem_visit (steps := cs) h with h | ⟨d, hd, e⟩
    · rcases mem_put h with h | h
      · exact .inl h
      · exact .inr ⟨c, List.mem_cons_self, h⟩
    · exact .inr ⟨d, List.mem_cons_of_mem _ hd, e⟩
theorem put_known (f : T → UInt8 → T) (p : T × List UInt8) (L : Met T) (c : UInt8) : known (put f p L c) (f p.1 c) = true := by
  unfold put
  split
  · assumption
  · rw [known_append]
    simp [known]
theorem known_prefix {L M : Met T} (h : L <+: M) {t : T} (hk : known L t = true) : known M t = true := by
  obtain ⟨R, rfl⟩ := h
  rw [known_append, hk]
  rfl
theorem visit_known (f : T → UInt8 → T) (p : T × List UInt8) : ∀ (steps : List UInt8) (L : Met T) (c : UInt8), c ∈ steps → known (visit f p steps L) (f p.1 c) = true
  | [], _, _, h => by simp at h
  | d :: cs, L, c, h => by
    rcases List.mem_cons.1 h with rfl | h
    · exact known_prefix (visit_prefix f p cs _) (put_known f p L c)
    · exact visit_known f p cs _ c h
/-- What a search that is under way has done: all before number i are closed. -/
structure Inv (f : T → UInt8 → T) (steps : List UInt8) (t0 : T) (i : Nat) (L : Met T) : Prop where
  nodup : (L.map (·.1)).Nodup
  first : L[0]? = some (t0, [])
  le : i ≤ L.length
  leads : ∀ q, q ∈ L → q.1 = q.2.foldl f t0 ∧ ∀ c, c ∈ q.2 → c ∈ steps
  closed : ∀ j q, j < i → L[j]? = some q → ∀ c, c ∈ steps → known L (f q.1 c) = true
theorem Inv.start (f : T → UInt8 → T) (steps : List UInt8) (t0 : T) : Inv f steps t0 0 [(t0, [])] where
  nodup := by simp
  first := rfl
  le := by simp
  leads := by
    intro q hq
    obtain rfl : q = (t0, []) := by simpa using hq
    simp
  closed := by
    intro j q hj
    omega
theorem Inv.next {f : T → UInt8 → T} {steps : List UInt8} {t0 : T} {i : Nat} {L : Met T} (h : Inv f steps t0 i L) {p : T × List UInt8} (hp : L[i]? = some p) : Inv f steps t0 (i + 1) (visit f p steps L) where
  nodup := visit_nodup f p steps L h.nodup
  first := by
    obtain ⟨R, hR⟩ := visit_prefix f p steps L
    rw [← hR, List.getElem?_append_left (by have := (List.getElem?_eq_some_iff.1 hp).1; omega)]
    exact h.first
  le := by
    have := (List.getElem?_eq_some_iff.1 hp).1
    have := (visit_prefix f p steps L).length_le
    omega
  leads := by
    intro q hq
    rcases mem_visit hq with hq | ⟨c, hc, rfl⟩
    · exact h.leads q hq
    · obtain ⟨h1, h2⟩ := h.leads p (List.mem_of_getElem? hp)
      refine ⟨by rw [List.foldl_append, ← h1]; rfl, ?_⟩
      intro d hd
      rcases List.mem_append.1 hd with hd | hd
      · exact h2 d hd
      · obtain rfl : d = c := by simpa using hd
        exact hc
  closed := by
    intro j q hj hq c hc
    have hpi := (List.getElem?_eq_some_iff.1 hp).1
    obtain ⟨R, hR⟩ := visit_prefix f p steps L
    rw [← hR, List.getElem?_append_left (by omega)] at hq
    by_cases hji : j < i
    · exact known_prefix (visit_prefix f p steps L) (h.closed j q hji hq c hc)
    · obtain rfl : j = i := by omega
      obtain rfl : p = q := by rw [hp] at hq; exact Option.some.inj hq
      exact visit_known f p steps L c hc
/-- No more than there are. -/
theorem nodup_length {α : Type} [DecidableEq α] : ∀ (l m : List α), l.Nodup → (∀ x, x ∈ l → x ∈ m) → l.length ≤ m.length
  | [], _, _, _ => by simp
  | x :: l, m, hn, hs => by
    obtain ⟨h1, h2⟩ := List.nodup_cons.1 hn
    have hx := hs x List.mem_cons_self
    have := nodup_length l (m.erase x) h2 (fun y hy => by
      refine (List.mem_erase_of_ne (fun e => h1 (by rw [← e]; exact hy))).2 (hs y (List.mem_cons_of_mem _ hy)))
    rw [List.length_erase_of_mem hx] at this
    have := List.length_pos_of_mem hx
    simp only [List.length_cons]
    omega
/-- What a walk through the program wants of what has been met so far. -/
structure Good (n : Int) (L : Met Int) : Prop where
  nodup : (L.map (·.1)).Nodup
  range : ∀ q, q ∈ L → 0 ≤ q.1 ∧ q.1 < 2 * n
  short : ∀ q, q ∈ L → q.2.length < L.length
theorem Good.start {n t : Int} (h0 : 0 ≤ t) (h1 : t < 2 * n) : Good n [(t, [])] where
  nodup := by simp
  range := by
    intro q hq
    obtain rfl : q = (t, []) := by simpa using hq
    exact ⟨h0, h1⟩
  short := by
    intro q hq
    obtain rfl : q = (t, []) := by simpa using hq
    simp
theorem Good.put {n : Int} {f : Int → UInt8 → Int} {L : Met Int} (h : Good n L) {p : Int × List UInt8} (hp : p ∈ L) (c : UInt8) (hr : 0 ≤ f p.1 c ∧ f p.1 c < 2 * n) : Good n (put f p L c) where
  nodup := put_nodup f p L c h.nodup
  range := by
    intro q hq
    rcases mem_put hq with hq | rfl
    · exact h.range q hq
    · exact hr
  short := by
    intro q hq
    have h1 := h.short p hp
    unfold Bfs.put at hq ⊢
    split at hq
    · rename_i hk
      rw [if_pos hk]
      exact h.short q hq
    · rename_i hk
      rw [if_neg hk, List.length_append]
      rcases List.mem_append.1 hq with hq | hq
      · have := h.short q hq
        simp; omega
      · obtain rfl : q = _ := by simpa using hq
        simp; omega
theorem Good.length {n : Int} {L : Met Int} (h : Good n L) : (L.length : Int) ≤ 2 * n ∨ L.length = 0 := by
  by_cases h0 : L.length = 0
  · exact .inr h0
  · left
    have hn : 0 ≤ 2 * n := by
      obtain ⟨q, hq⟩ : ∃ q, q ∈ L := List.exists_mem_of_length_pos (by omega)
      have := h.range q hq
      omega
    have := nodup_length (L.map (·.1)) ((List.range (2 * n).toNat).map fun (x : Nat) => (x : Int)) h.nodup (fun x hx => by
      obtain ⟨q, hq, rfl⟩ := List.mem_map.1 hx
      have := h.range q hq
      exact List.mem_map.2 ⟨q.1.toNat, List.mem_range.2 (by omega), by omega⟩)
    simp at this
    omega
theorem visit_take (f : Int → UInt8 → Int) (p : Int × List UInt8) (steps : List UInt8) (L : Met Int) (j : Nat) (h : j < steps.length) : visit f p (steps.take (j + 1)) L = put f p (visit f p (steps.take j) L) (steps.getD j 0) := by
  unfold visit
  rw [List.take_succ_eq_append_getElem h, List.foldl_append, List.getD_eq_getElem?_getD, List.getElem?_eq_getElem h]
  rfl
end Go.Proofs.YtpaeobpmkdekfaaDoor.Bfs
end

section
namespace Go.Proofs.YtpaeobpmkdekfaaDoor.Bfs
end Go.Proofs.YtpaeobpmkdekfaaDoor.Bfs
end

section
namespace Go.Proofs.YtpaeobpmkdekfaaDoor.Bfs
set_option linter.unusedSectionVars false
variable {T : Type} [DecidableEq T]
/-- Every word but the empty one is a word that has been met and one more step. -/
def Par (L : Met T) : Prop := ∀ q, q ∈ L → q.2 ≠ [] → ∃ p c, p ∈ L ∧ q.2 = p.2 ++ [c]
theorem Par.visit {f : T → UInt8 → T} {p : T × List UInt8} {steps : List UInt8} {L : Met T} (h : Par L) (hp : p ∈ L) : Par (visit f p steps L) := by
  intro q hq hne
  have hsub : ∀ x, x ∈ L → x ∈ Bfs.visit f p steps L := fun x hx => (visit_prefix f p steps L).subset hx
  rcases mem_visit hq with hq | ⟨c, _, rfl⟩
  · obtain ⟨r, c, h1, h2⟩ := h q hq hne
    exact ⟨r, c, hsub r h1, h2⟩
  · exact ⟨p, c, hsub p hp, rfl⟩
theorem Par.go {f : T → UInt8 → T} {steps : List UInt8} : ∀ (k i : Nat) (L : Met T), Par L → Par (go f steps k i L)
  | 0, _, _, h => h
  | k + 1, i, L, h => by
    unfold Bfs.go
    cases hp : L[i]? with
    | none => exact h
    | some p => exact Par.go k (i + 1) _ (h.visit (List.mem_of_getElem? hp))
theorem Par.start (t : T) : Par [(t, ([] : List UInt8))] := by
  intro q hq hne
  obtain rfl : q = (t, []) := by simpa using hq
  exact absurd rfl hne
section
variable {f : T → UInt8 → T} {g : T → T} {P : T → Prop} (hP : ∀ x c, P x → P (f x c)) (hg : ∀ x c, P x → g (f x c) = f (g x) c) (hi : ∀ x y, P x → P y → g x = g y → x = y)
include hP hg hi
end
end Go.Proofs.YtpaeobpmkdekfaaDoor.Bfs
end
