/- Texts that the proof of TriadsTours needs, put together in build order by this session's program (wip/tools/claimtrim.py). -/
import Derived.Maps.OwnSet
import Derived.Maps.RangeWalk
import Derived.Maps.StringElems
import Derived.WalkKit
section
namespace Go.Proofs.YtpaeobpmkdekfaaDoor.MapLaws
open Go.Maps (Keyed)
section
variable {H : Type} {P : Program} (w : World) {ops : Array Oper} {rest : List Oper} {o : Oper} {a : Act} {Q : Exit → Act → World → Prop}
end
section
variable {H : Type}
theorem keyLit (x : Int) : WideAt.IsKeyLit (.int .i64 x) := by first | trivial | exact ⟨_, _, rfl⟩ | simp [WideAt.IsKeyLit]
end
end Go.Proofs.YtpaeobpmkdekfaaDoor.MapLaws
end
