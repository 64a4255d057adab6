/- Texts that the proof of TriadsPairs needs, put together in build order by this session's program (wip/tools/claimtrim.py). -/
import Derived.Test.YtpaeobpmkdekfaaDoorTriadsPairsM8
import Derived.WalkLawsBesides
section
namespace Go.Proofs.YtpaeobpmkdekfaaDoor.StrLe
end Go.Proofs.YtpaeobpmkdekfaaDoor.StrLe
end

section
namespace Go.Proofs.YtpaeobpmkdekfaaDoor.Bfs
open Go.Proofs.YtpaeobpmkdekfaaDoor.StrLe
theorem less_trans : ∀ u v x : List UInt8, Op.bytesLess u v = true → Op.bytesLess v x = true → Op.bytesLess u x = true
  | _, [], _, h, _ => by simp [Op.bytesLess] at h
  | _, _ :: _, [], _, h => by simp [Op.bytesLess] at h
  | [], _ :: _, _ :: _, _, _ => rfl
  | a :: u, b :: v, c :: x, h1, h2 => by
    simp only [Op.bytesLess, Bool.or_eq_true, decide_eq_true_eq, Bool.and_eq_true, beq_iff_eq, UInt8.lt_iff_toNat_lt] at h1 h2 ⊢
    rcases h1 with h1 | ⟨rfl, h1⟩
    · rcases h2 with h2 | ⟨rfl, h2⟩
      · exact .inl (by omega)
      · exact .inl h1
    · rcases h2 with h2 | ⟨rfl, h2⟩
      · exact .inl h2
      · exact .inr ⟨rfl, less_trans u v x h1 h2⟩
theorem less_app : ∀ u x y : List UInt8, Op.bytesLess (u ++ x) (u ++ y) = Op.bytesLess x y
  | [], _, _ => rfl
  | a :: u, x, y => by
    simp only [List.cons_append, Op.bytesLess, less_app u x y]
    have : ¬ a < a := fun h => by have := UInt8.lt_iff_toNat_lt.1 h; omega
    simp [this]
theorem less_snoc : ∀ u v x y : List UInt8, u.length = v.length → Op.bytesLess u v = true → Op.bytesLess (u ++ x) (v ++ y) = true
  | _, [], _, _, _, h => by simp [Op.bytesLess] at h
  | [], _ :: _, _, _, hl, _ => by simp at hl
  | a :: u, b :: v, x, y, hl, h => by
    simp only [List.cons_append, Op.bytesLess, Bool.or_eq_true, decide_eq_true_eq, Bool.and_eq_true, beq_iff_eq] at h ⊢
    rcases h with h | ⟨rfl, h⟩
    · exact .inl h
    · exact .inr ⟨rfl, less_snoc u v x y (by simpa using hl) h⟩
/-- One word before another one. -/
def Slt (u v : List UInt8) : Prop := u.length < v.length ∨ (u.length = v.length ∧ Op.bytesLess u v = true)
theorem Slt.trans {u v x : List UInt8} (h : Slt u v) (g : Slt v x) : Slt u x := by
  unfold Slt at *
  rcases h with h | ⟨h, h2⟩
  · left
    rcases g with g | ⟨g, _⟩ <;> omega
  · rcases g with g | ⟨g, g2⟩
    · left; omega
    · exact .inr ⟨by omega, less_trans u v x h2 g2⟩
theorem Slt.snoc {u v : List UInt8} (h : Slt u v) (c d : UInt8) : Slt (u ++ [c]) (v ++ [d]) := by
  unfold Slt at *
  rw [List.length_append, List.length_append]
  simp only [List.length_singleton]
  rcases h with h | ⟨h, h2⟩
  · left; omega
  · exact .inr ⟨by omega, less_snoc u v [c] [d] h h2⟩
theorem Slt.last (u : List UInt8) {c d : UInt8} (h : c < d) : Slt (u ++ [c]) (u ++ [d]) := by
  unfold Slt
  refine .inr ⟨by simp, ?_⟩
  rw [less_app]
  simp [Op.bytesLess, h]
set_option linter.unusedSectionVars false
variable {T : Type} [DecidableEq T]
/-- What the search keeps of its words, all before number i being closed. -/
structure SInv (f : T → UInt8 → T) (steps : List UInt8) (i : Nat) (L : Met T) : Prop where
  rising : (L.map (·.2)).Pairwise Slt
  ahead : ∀ p, L[i]? = some p → ∀ e, e ∈ L → ∀ c, c ∈ steps → Slt e.2 (p.2 ++ [c])
  low : ∀ j p, j < i → L[j]? = some p → ∀ c, c ∈ steps → ∃ e, e ∈ L ∧ e.1 = f p.1 c ∧ (e.2 = p.2 ++ [c] ∨ Slt e.2 (p.2 ++ [c]))
theorem SInv.start (f : T → UInt8 → T) (steps : List UInt8) (t0 : T) : SInv f steps 0 [(t0, [])] where
  rising := by simp
  ahead := by
    intro p _ e he c _
    obtain rfl : e = (t0, []) := by simpa using he
    left
    simp
  low := by
    intro j p hj
    omega
theorem visit_slt {f : T → UInt8 → T} {p : T × List UInt8} : ∀ (cs : List UInt8) (L : Met T), cs.Pairwise (· < ·) → (L.map (·.2)).Pairwise Slt → (∀ e, e ∈ L → ∀ c, c ∈ cs → Slt e.2 (p.2 ++ [c])) → ((visit f p cs L).map (·.2)).Pairwise Slt ∧ ∀ c, c ∈ cs → ∃ e, e ∈ visit f p cs L ∧ e.1 = f p.1 c ∧ (e.2 = p.2 ++ [c] ∨ Slt e.2 (p.2 ++ [c]))
  | [], L, _, h, _ => ⟨h, fun c hc => by cases hc⟩
  | c :: cs, L, hcs, h, hb => by
    obtain ⟨hc1, hc2⟩ := List.pairwise_cons.1 hcs
    have key : ((put f p L c).map (·.2)).Pairwise Slt ∧ (∀ e, e ∈ put f p L c → ∀ d, d ∈ cs → Slt e.2 (p.2 ++ [d])) ∧ ∃ e, e ∈ put f p L c ∧ e.1 = f p.1 c ∧ (e.2 = p.2 ++ [c] ∨ Slt e.2 (p.2 ++ [c])) := by
      unfold put
      by_cases hk : known L (f p.1 c) = true
      · rw [if_pos hk]
        obtain ⟨w, hw⟩ := known_iff.1 hk
        exact ⟨h, fun e he d hd => hb e he d (List.mem_cons_of_mem _ hd), _, hw, rfl, .inr (hb _ hw c List.mem_cons_self)⟩
      · rw [if_neg hk]
        refine ⟨?_, ?_, (f p.1 c, p.2 ++ [c]), List.mem_append_right _ (List.mem_singleton.2 rfl), rfl, .inl rfl⟩
        · rw [List.map_append, List.pairwise_append]
          refine ⟨h, by simp, ?_⟩
          intro x hx y hy
          obtain ⟨e, he, rfl⟩ := List.mem_map.1 hx
          have : y = p.2 ++ [c] := by simpa using hy
          rw [this]
          exact hb e he c List.mem_cons_self
        · intro e he d hd
          rcases List.mem_append.1 he with he | he
          · exact hb e he d (List.mem_cons_of_mem _ hd)
          · rw [List.mem_singleton.1 he]
            exact Slt.last _ (hc1 d hd)
    obtain ⟨k1, k2, e0, k3, k4⟩ := key
    obtain ⟨r1, r2⟩ := visit_slt cs (put f p L c) hc2 k1 k2
    refine ⟨r1, ?_⟩
    intro d hd
    rcases List.mem_cons.1 hd with rfl | hd
    · exact ⟨e0, (visit_prefix f p cs _).subset k3, k4⟩
    · exact r2 d hd
theorem SInv.next {f : T → UInt8 → T} {steps : List UInt8} (hs : steps.Pairwise (· < ·)) {i : Nat} {L : Met T} (h : SInv f steps i L) {p : T × List UInt8} (hp : L[i]? = some p) : SInv f steps (i + 1) (visit f p steps L) := by
  obtain ⟨r1, r2⟩ := visit_slt (f := f) (p := p) steps L hs h.rising (h.ahead p hp)
  have hi := (List.getElem?_eq_some_iff.1 hp).1
  obtain ⟨R, hR⟩ := visit_prefix f p steps L
  have hold : ∀ j, j < L.length → (visit f p steps L)[j]? = L[j]? := by
    intro j hj
    rw [← hR, List.getElem?_append_left hj]
  refine ⟨r1, ?_, ?_⟩
  · intro p' hp' e he c hc
    have hlt : Slt p.2 p'.2 := by
      have h1 : ((visit f p steps L).map (·.2))[i]? = some p.2 := by rw [List.getElem?_map, hold i hi, hp]; rfl
      have h2 : ((visit f p steps L).map (·.2))[i + 1]? = some p'.2 := by rw [List.getElem?_map, hp']; rfl
      obtain ⟨g1, g2⟩ := List.getElem?_eq_some_iff.1 h1
      obtain ⟨g3, g4⟩ := List.getElem?_eq_some_iff.1 h2
      rw [← g2, ← g4]
      exact List.pairwise_iff_getElem.1 r1 i (i + 1) g1 g3 (by omega)
    rcases mem_visit he with he | ⟨d, _, rfl⟩
    · exact (h.ahead p hp e he c hc).trans (hlt.snoc c c)
    · exact hlt.snoc d c
  · intro j p' hj hp' c hc
    by_cases hji : j < i
    · rw [hold j (by omega)] at hp'
      obtain ⟨e, he, h2⟩ := h.low j p' hji hp' c hc
      exact ⟨e, (visit_prefix f p steps L).subset he, h2⟩
    · obtain rfl : j = i := by omega
      rw [hold j hi, hp] at hp'
      obtain rfl := Option.some.inj hp'
      exact r2 c hc
end Go.Proofs.YtpaeobpmkdekfaaDoor.Bfs
end
