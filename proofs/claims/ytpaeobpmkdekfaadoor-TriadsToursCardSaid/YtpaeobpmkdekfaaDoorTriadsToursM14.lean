/- Texts that the proof of TriadsTours needs, put together in build order by this session's program (wip/tools/claimtrim.py). -/
import Derived.Test.YtpaeobpmkdekfaaDoorTriadsToursM5
import Derived.Test.YtpaeobpmkdekfaaDoorTriadsToursM7
import Derived.Test.YtpaeobpmkdekfaaDoorTriadsToursM12
import Derived.Test.YtpaeobpmkdekfaaDoorTriadsToursM13
import Derived.Deep.RegionHeld3
section
namespace Go.Proofs.YtpaeobpmkdekfaaDoor.P
open Go.RowKit Go.Proofs.YtpaeobpmkdekfaaDoorW.PrintWords Go.Proofs.YtpaeobpmkdekfaaDoorW.PrintLast Go.Proofs.YtpaeobpmkdekfaaDoorW.PrintMore
set_option linter.unusedVariables false
set_option linter.unusedSimpArgs false
section
open Go.Proofs.YtpaeobpmkdekfaaDoor.MapLaws Go.Proofs.YtpaeobpmkdekfaaDoor.Bfs Go.Proofs.YtpaeobpmkdekfaaDoor.Base
end
section
open Go.Proofs.YtpaeobpmkdekfaaDoor.MapLaws Go.Proofs.YtpaeobpmkdekfaaDoor.Base
end
end Go.Proofs.YtpaeobpmkdekfaaDoor.P
end

section
namespace Go.Proofs.YtpaeobpmkdekfaaDoor.P
open Go.RowKit Go.Proofs.YtpaeobpmkdekfaaDoorW.PrintWords Go.Proofs.YtpaeobpmkdekfaaDoorW.PrintLast Go.Proofs.YtpaeobpmkdekfaaDoorW.PrintMore
set_option linter.unusedVariables false
set_option linter.unusedSimpArgs false
section
open Go.Proofs.YtpaeobpmkdekfaaDoor.MapLaws Go.Proofs.YtpaeobpmkdekfaaDoor.Base
/-- What a range over a map has handed out. -/
structure Coll (L dn : Bfs.Met Int) (left : Lit → Bool) : Prop where
  nodup : (dn.map (·.1)).Nodup
  sub : ∀ p, p ∈ dn → p ∈ L
  left : ∀ x : Int, left (.int .i64 x) = (Bfs.known L x && !Bfs.known dn x)
theorem Coll.step {L dn : Bfs.Met Int} {left : Lit → Bool} (h : Coll L dn left) {x : Int} {u : List UInt8} (hx : left (.int .i64 x) = true) (hu : (x, u) ∈ L) : Coll L (dn ++ [(x, u)]) (fun z => left z && !z.sameKey (.int .i64 x)) where
  nodup := by
    rw [List.map_append, List.nodup_append]
    refine ⟨h.nodup, by simp, ?_⟩
    intro y hy z hz e
    obtain rfl : z = x := by simpa using hz
    subst e
    obtain ⟨q, hq, rfl⟩ := List.mem_map.1 hy
    have h1 := h.left q.1
    rw [hx, Bfs.known_iff.2 ⟨q.2, hq⟩] at h1
    simp at h1
  sub := by
    intro p hp
    rcases List.mem_append.1 hp with hp | hp
    · exact h.sub p hp
    · obtain rfl : p = (x, u) := by simpa using hp
      exact hu
  left := by
    intro y
    rw [h.left y, Bfs.known_append]
    have e1 : Bfs.known [(x, u)] y = decide (x = y) := by simp [Bfs.known]
    rw [e1]
    by_cases e : x = y
    · subst e
      have : Lit.sameKey (.int .i64 x) (.int .i64 x) = true := WideAt.sameKey_self (keyLit x)
      rw [this]
      simp
    · have : Lit.sameKey (.int .i64 y) (.int .i64 x) = false := by
        cases hs : Lit.sameKey (.int .i64 y) (.int .i64 x) with
        | false => rfl
        | true =>
          have h1 := WideAt.sameKey_eq hs
          injection h1 with _ h1
          exact absurd h1.symm e
      rw [this, decide_eq_false e]
      simp
theorem nodup_of_keys : ∀ {L : Bfs.Met Int}, (L.map (·.1)).Nodup → L.Nodup
  | [], _ => by simp
  | p :: L, h => by
    rw [List.map_cons, List.nodup_cons] at h
    rw [List.nodup_cons]
    exact ⟨fun hp => h.1 (List.mem_map.2 ⟨p, hp, rfl⟩), nodup_of_keys h.2⟩
theorem key_unique : ∀ {L : Bfs.Met Int}, (L.map (·.1)).Nodup → ∀ {x : Int} {u v : List UInt8}, (x, u) ∈ L → (x, v) ∈ L → u = v
  | [], _, _, _, _, h, _ => by simp at h
  | p :: L, hn, x, u, v, h1, h2 => by
    rw [List.map_cons, List.nodup_cons] at hn
    rcases List.mem_cons.1 h1 with e1 | h1
    · rcases List.mem_cons.1 h2 with e2 | h2
      · rw [← e1] at e2
        injection e2 with _ e2
        exact e2.symm
      · exact absurd (List.mem_map.2 ⟨_, h2, by rw [← e1]⟩) hn.1
    · rcases List.mem_cons.1 h2 with e2 | h2
      · exact absurd (List.mem_map.2 ⟨_, h1, by rw [← e2]⟩) hn.1
      · exact key_unique hn.2 h1 h2
theorem Coll.all {L dn : Bfs.Met Int} {left : Lit → Bool} (h : Coll L dn left) (hn : (L.map (·.1)).Nodup) (h0 : ∀ kl, left kl = false) : dn.Perm L := by
  refine (List.perm_ext_iff_of_nodup (nodup_of_keys h.nodup) (nodup_of_keys hn)).2 ?_
  intro p
  refine ⟨h.sub p, fun hp => ?_⟩
  have h1 := h.left p.1
  rw [h0, Bfs.known_iff.2 ⟨p.2, hp⟩] at h1
  have h2 : Bfs.known dn p.1 = true := by simpa using h1.symm
  obtain ⟨u, hu⟩ := Bfs.known_iff.1 h2
  have e := key_unique hn (h.sub _ hu) hp
  rw [e] at hu
  exact hu
theorem Coll.length {L dn : Bfs.Met Int} {left : Lit → Bool} (h : Coll L dn left) : dn.length ≤ L.length := Bfs.nodup_length dn L (nodup_of_keys h.nodup) h.sub
end
end Go.Proofs.YtpaeobpmkdekfaaDoor.P
end

section
namespace Go.Proofs.YtpaeobpmkdekfaaDoor.P
open Go.RowKit Go.Proofs.YtpaeobpmkdekfaaDoorW.PrintWords Go.Proofs.YtpaeobpmkdekfaaDoorW.PrintLast Go.Proofs.YtpaeobpmkdekfaaDoorW.PrintMore
set_option linter.unusedVariables false
set_option linter.unusedSimpArgs false
section
open Go.Proofs.YtpaeobpmkdekfaaDoor.MapLaws Go.Proofs.YtpaeobpmkdekfaaDoor.Base
end
end Go.Proofs.YtpaeobpmkdekfaaDoor.P
end

section
namespace Go.Proofs.YtpaeobpmkdekfaaDoor.P
open Go.RowKit Go.Proofs.YtpaeobpmkdekfaaDoorW.PrintWords Go.Proofs.YtpaeobpmkdekfaaDoorW.PrintLast Go.Proofs.YtpaeobpmkdekfaaDoorW.PrintMore
attribute [local go_sem] max2_int min2_int max_two min_two max_three min_three max_four min_four   -- for this text's walks alone
set_option linter.unusedVariables false
set_option linter.unusedSimpArgs false
end Go.Proofs.YtpaeobpmkdekfaaDoor.P
end

section
namespace Go.Proofs.YtpaeobpmkdekfaaDoor.Base
open Go.RowKit Go.Proofs.YtpaeobpmkdekfaaDoor.P Go.Proofs.YtpaeobpmkdekfaaDoor.Kit Go.Proofs.YtpaeobpmkdekfaaDoorW.PrintWords Go.Proofs.YtpaeobpmkdekfaaDoorW.PrintLast
end Go.Proofs.YtpaeobpmkdekfaaDoor.Base
end

section
namespace Go.Proofs.YtpaeobpmkdekfaaDoor.Base
open Go.Proofs.YtpaeobpmkdekfaaDoor.P Go.Proofs.YtpaeobpmkdekfaaDoor.Tri
/-- The triads, in a list. -/
def all (n : Int) : List Int := (List.range (2 * n).toNat).map fun (x : Nat) => (x : Int)
end Go.Proofs.YtpaeobpmkdekfaaDoor.Base
end
