/- Texts that the proof of EvenSpreads needs, put together in build order by this session's program (wip/tools/claimtrim.py). -/
import Derived.Test.YthbcdmbicfmeaaaEvenSpreadsM3
import Derived.Sort.OwnSortedInts
import Derived.Shelf.Sort.Plain
import Derived.Shelf.Slices.In.SortNone
import Derived.Shelf.Slices.CompactI
section
namespace Go.Proofs.Ythbcdmbicfmeaaa.Slices
open Go.RowKit Go.Shelf Go.Sort Go.Proofs.YthbcdmbicfmeaaaW.PrintWords Go.Proofs.YthbcdmbicfmeaaaW.PrintLast
variable {P : Program} {ρ : Ren}
end Go.Proofs.Ythbcdmbicfmeaaa.Slices
end
