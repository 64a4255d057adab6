/- Texts that the proof of EvenSpreads needs, put together in build order by this session's program (wip/tools/claimtrim.py). -/
import Derived.Sort.QuietThIn
import Derived.OwnWalkIn
section
namespace Go.Proofs.Ythbcdmbicfmeaaa.Quiet
open Go
variable {F : Fence} {n : Nat} {P : Program} {ops : Array Oper} {md : Region.Mode} {C : World → Prop}
end Go.Proofs.Ythbcdmbicfmeaaa.Quiet
end
