/- Texts that the proof of TriadsSizes needs, put together in build order by this session's program (wip/tools/claimtrim.py). -/
import Derived.Test.YtpaeobpmkdekfaaDoorTriadsSizesM14
import Derived.Test.YtpaeobpmkdekfaaDoorTriadsSizesM2
section
namespace Go.Proofs.YtpaeobpmkdekfaaDoor.Base
open Go.Proofs.YtpaeobpmkdekfaaDoor.P Go.Proofs.YtpaeobpmkdekfaaDoor.Tri
theorem pair_unique {L : Bfs.Met Int} (hn : (L.map (·.1)).Nodup) {y : Int} {u v : List UInt8} (h : (y, u) ∈ L) (g : (y, v) ∈ L) : u = v := by
  induction L with
  | nil => cases h
  | cons p L ih =>
    rw [List.map_cons, List.nodup_cons] at hn
    rcases List.mem_cons.1 h with h | h
    · rcases List.mem_cons.1 g with g | g
      · rw [← h] at g
        exact (congrArg Prod.snd g).symm
      · exact absurd (List.mem_map.2 ⟨_, g, by rw [← h]⟩) hn.1
    · rcases List.mem_cons.1 g with g | g
      · exact absurd (List.mem_map.2 ⟨_, h, by rw [← g]⟩) hn.1
      · exact ih hn.2 h g
theorem wordOf_mem' {L : Bfs.Met Int} (hn : (L.map (·.1)).Nodup) {y : Int} {u : List UInt8} (h : (y, u) ∈ L) : wordOf L y = some u := by
  cases hw : wordOf L y with
  | none =>
    have := wordOf_none hw
    rw [Bfs.known_iff.2 ⟨u, h⟩] at this
    cases this
  | some v => rw [Base.pair_unique hn (wordOf_some hw) h]
theorem step_back {n a b : Int} (hn : 0 < n) (t : Int) (h0 : 0 ≤ t) (h1 : t < 2 * n) (c : UInt8) : stepU n a b (stepU n a b t c) c = t := by
  have := (walk_eq_iff hn a b [c, c] [] t h0 h1).2 ⟨rfl, by
    have e : alt a b [c, c] = up a b (c.toNat : Int) - (up a b (c.toNat : Int) - 0) := rfl
    have e2 : alt a b [] = 0 := rfl
    rw [e, e2]
    congr 1
    omega⟩
  exact this
/-- The triads that some steps lead to. -/
def orbit (n a b : Int) (s : List UInt8) (t : Int) : List Int := (searchL n a b s t).map (·.1)
theorem mem_orbit {n a b : Int} (hk : isKind n a b = true) (s : List UInt8) (t : Int) (h0 : 0 ≤ t) (h1 : t < 2 * n) (u : Int) : u ∈ orbit n a b s t ↔ ∃ w : List UInt8, (∀ c, c ∈ w → c ∈ s) ∧ walkI n a b w t = u := by
  rw [← known_walk hk s t h0 h1 u, Bfs.known_iff]
  unfold orbit
  rw [List.mem_map]
  constructor
  · rintro ⟨q, hq, rfl⟩
    exact ⟨q.2, hq⟩
  · rintro ⟨w, hw⟩
    exact ⟨_, hw, rfl⟩
theorem orbit_step {n a b : Int} (hk : isKind n a b = true) (s : List UInt8) (t : Int) (h0 : 0 ≤ t) (h1 : t < 2 * n) {u : Int} (hu : u ∈ orbit n a b s t) {c : UInt8} (hc : c ∈ s) : stepU n a b u c ∈ orbit n a b s t := by
  obtain ⟨w, h2, rfl⟩ := (mem_orbit hk s t h0 h1 u).1 hu
  refine (mem_orbit hk s t h0 h1 _).2 ⟨w ++ [c], ?_, by rw [walk_append]; rfl⟩
  intro d hd
  rcases List.mem_append.1 hd with hd | hd
  · exact h2 d hd
  · rw [List.mem_singleton.1 hd]; exact hc
theorem length_split (p : Int → Bool) : ∀ l : List Int, l.length = (l.filter p).length + (l.filter fun x => !p x).length
  | [] => rfl
  | x :: l => by
    have := length_split p l
    rw [List.filter_cons, List.filter_cons]
    cases p x <;> simp <;> omega
theorem orbit_parts {n a b : Int} (hk : isKind n a b = true) (s : List UInt8) (m : Nat) (hm : m = (searchL n a b s 0).length) : ∀ (d : Nat) (U : List Int), U.length ≤ d → U.Nodup → (∀ x, x ∈ U → 0 ≤ x ∧ x < 2 * n) → (∀ x, x ∈ U → ∀ c, c ∈ s → stepU n a b x c ∈ U) → m ∣ U.length
  | 0, U, hd, _, _, _ => by
    rw [Nat.le_zero.1 hd]
    exact Nat.dvd_zero m
  | d + 1, U, hd, hn, hr, hc => by
    cases U with
    | nil => exact Nat.dvd_zero m
    | cons t U' =>
      have hn0 := kind_pos hk
      generalize hU : t :: U' = U at hd hn hr hc
      have htU : t ∈ U := by rw [← hU]; exact List.mem_cons_self
      obtain ⟨h0, h1⟩ := hr t htU
      have hsub : ∀ u, u ∈ orbit n a b s t → u ∈ U := by
        intro u hu
        obtain ⟨w, hw, rfl⟩ := (mem_orbit hk s t h0 h1 u).1 hu
        have key : ∀ (w : List UInt8) (x : Int), x ∈ U → (∀ c, c ∈ w → c ∈ s) → walkI n a b w x ∈ U := by
          intro w
          induction w with
          | nil => intro x hx _; exact hx
          | cons c w ih =>
            intro x hx hw
            exact ih _ (hc x hx c (hw c List.mem_cons_self)) (fun d hd => hw d (List.mem_cons_of_mem _ hd))
        exact key w t htU hw
      have hon : (orbit n a b s t).Nodup := (searchL_inv hk s t h0 h1).nodup
      have hol : (orbit n a b s t).length = m := by
        unfold orbit
        rw [List.length_map, hm]
        exact (searchL_counts hk s 0 t ⟨by omega, by omega⟩ ⟨h0, h1⟩).2
      have e1 : (U.filter fun x => decide (x ∈ orbit n a b s t)).length = m := by
        rw [← hol]
        refine List.Perm.length_eq ?_
        rw [List.perm_ext_iff_of_nodup (List.filter_sublist.nodup hn) hon]
        intro x
        rw [List.mem_filter, decide_eq_true_eq]
        exact ⟨fun h => h.2, fun h => ⟨hsub x h, h⟩⟩
      have hmpos : 0 < m := by
        have : t ∈ orbit n a b s t := (mem_orbit hk s t h0 h1 t).2 ⟨[], (by intro c hc; cases hc), rfl⟩
        rw [← hol]
        exact List.length_pos_of_mem this
      have hsp := length_split (fun x => decide (x ∈ orbit n a b s t)) U
      rw [e1] at hsp
      have ih := orbit_parts hk s m hm d (U.filter fun x => !decide (x ∈ orbit n a b s t)) (by omega) (List.filter_sublist.nodup hn) (fun x hx => hr x (List.mem_filter.1 hx).1) (by
        intro x hx c hcs
        obtain ⟨hx1, hx2⟩ := List.mem_filter.1 hx
        refine List.mem_filter.2 ⟨hc x hx1 c hcs, ?_⟩
        rw [Bool.not_eq_true', decide_eq_false_iff_not] at hx2 ⊢
        intro hin
        have := orbit_step hk s t h0 h1 hin hcs
        obtain ⟨g0, g1⟩ := hr x hx1
        rw [step_back hn0 x g0 g1 c] at this
        exact hx2 this)
      rw [hsp]
      exact Nat.dvd_add (Nat.dvd_refl m) ih
theorem size_dvd {n a b : Int} (hk : isKind n a b = true) (s : List UInt8) : (searchL n a b s 0).length ∣ (2 * n).toNat := by
  rw [← all_length n]
  exact orbit_parts hk s _ rfl (all n).length (all n) (Nat.le_refl _) (all_nodup n) (fun x hx => mem_all.1 hx) (fun x hx c _ => mem_all.2 (stepU_range hk x c))
theorem size_same {n a b : Int} (hk : isKind n a b = true) (s r : List UInt8) (hsr : ∀ c, c ∈ s ↔ c ∈ r) (t : Int) (h0 : 0 ≤ t) (h1 : t < 2 * n) : (searchL n a b s t).length = (searchL n a b r t).length := by
  have e : (orbit n a b s t).Perm (orbit n a b r t) := by
    refine (List.perm_ext_iff_of_nodup (l₁ := orbit n a b s t) (l₂ := orbit n a b r t) (searchL_inv hk s t h0 h1).nodup (searchL_inv hk r t h0 h1).nodup).2 ?_
    intro x
    rw [mem_orbit hk s t h0 h1, mem_orbit hk r t h0 h1]
    constructor
    · rintro ⟨w, hw, e⟩
      exact ⟨w, fun c hc => (hsr c).1 (hw c hc), e⟩
    · rintro ⟨w, hw, e⟩
      exact ⟨w, fun c hc => (hsr c).2 (hw c hc), e⟩
  have := e.length_eq
  unfold orbit at this
  rw [List.length_map, List.length_map] at this
  exact this
/-- Way's word is the least one. -/
theorem way_least {n a b : Int} (hk : isKind n a b = true) (s : List UInt8) (hs : s.Pairwise (· < ·)) (t : Int) (h0 : 0 ≤ t) (h1 : t < 2 * n) (u : Int) (w : List UInt8) (hw : wordOf (searchL n a b s t) u = some w) (v : List UInt8) (hv : ∀ c, c ∈ v → c ∈ s) (he : walkI n a b v t = u) : w.length ≤ v.length ∧ (w.length < v.length ∨ Op.bytesLess v w = false) := by
  have h16 := (of_decide_eq_true hk).2.1
  have hn := kind_pos hk
  have inv := searchL_inv hk s t h0 h1
  have sinv := Bfs.go_sinv (f := stepU n a b) hs (t0 := t) (all n) (fun v => by
    rw [foldl_walk]
    exact mem_all.2 (walk_range hn a b v t h0 h1)) 65 0 _ (Bfs.Inv.start _ _ _) (Bfs.SInv.start _ _ _) (by rw [all_length]; omega)
  obtain ⟨e, he1, he2, he3⟩ := Bfs.SInv.least (f := stepU n a b) (t0 := t) (L := searchL n a b s t) sinv inv.first v hv
  rw [foldl_walk, he] at he2
  have hmem := wordOf_some hw
  have hew : e.2 = w := by
    have h2 : wordOf (searchL n a b s t) u = some e.2 := wordOf_mem' inv.nodup (by rw [← he2]; exact he1)
    rw [hw] at h2
    exact (Option.some.inj h2).symm
  rw [hew] at he3
  rcases he3 with rfl | h
  · exact ⟨Nat.le_refl _, .inr (StrLe.less_irrefl _)⟩
  · exact h.not
end Go.Proofs.YtpaeobpmkdekfaaDoor.Base
end
