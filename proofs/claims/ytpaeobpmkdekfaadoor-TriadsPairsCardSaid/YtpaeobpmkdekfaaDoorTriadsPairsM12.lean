/- Texts that the proof of TriadsPairs needs, put together in build order by this session's program (wip/tools/claimtrim.py). -/
import Derived.Test.YtpaeobpmkdekfaaDoorTriadsPairsM10
import Derived.Test.YtpaeobpmkdekfaaDoorTriadsPairsM11
section
namespace Go.Proofs.YtpaeobpmkdekfaaDoor.Base
open Go.Proofs.YtpaeobpmkdekfaaDoor.P Go.Proofs.YtpaeobpmkdekfaaDoor.Tri
/-- The triads that some steps lead to. -/
def orbit (n a b : Int) (s : List UInt8) (t : Int) : List Int := (searchL n a b s t).map (·.1)
theorem mem_orbit {n a b : Int} (hk : isKind n a b = true) (s : List UInt8) (t : Int) (h0 : 0 ≤ t) (h1 : t < 2 * n) (u : Int) : u ∈ orbit n a b s t ↔ ∃ w : List UInt8, (∀ c, c ∈ w → c ∈ s) ∧ walkI n a b w t = u := by
  rw [← known_walk hk s t h0 h1 u, Bfs.known_iff]
  unfold orbit
  rw [List.mem_map]
  constructor
  · rintro ⟨q, hq, rfl⟩
    exact ⟨q.2, hq⟩
  · rintro ⟨w, hw⟩
    exact ⟨_, hw, rfl⟩
end Go.Proofs.YtpaeobpmkdekfaaDoor.Base
end
