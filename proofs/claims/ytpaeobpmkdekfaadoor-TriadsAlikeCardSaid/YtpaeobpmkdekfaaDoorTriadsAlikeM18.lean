/- Texts that the proof of TriadsAlike needs, put together in build order by this session's program (wip/tools/claimtrim.py). -/
import Derived.Test.YtpaeobpmkdekfaaDoorTriadsAlikeM3
import Derived.Sort.OwnSortedInts
import Derived.Shelf.Sort.Plain
import Derived.Shelf.Slices.In.SortNone
section
namespace Go.Proofs.YtpaeobpmkdekfaaDoor.Slices
open Go.RowKit Go.Shelf Go.Sort Go.Proofs.YtpaeobpmkdekfaaDoorW.PrintWords Go.Proofs.YtpaeobpmkdekfaaDoorW.PrintLast
variable {P : Program} {ρ : Ren}
end Go.Proofs.YtpaeobpmkdekfaaDoor.Slices
end
