/- Texts that the proof of EvenSpreads needs, put together in build order by this session's program (wip/tools/claimtrim.py). -/
import Derived.Test.YthbcdmbicfmeaaaEvenSpreadsM12
import Derived.Test.YthbcdmbicfmeaaaEvenSpreadsM11
section
namespace Go.Proofs.Ythbcdmbicfmeaaa.Range
open Go.RowKit
variable {P : Program}
end Go.Proofs.Ythbcdmbicfmeaaa.Range
end
