/- Texts that the proof of LibraryReels needs, put together in build order by this session's program (wip/tools/claimtrim.py). -/
import Derived.Shelf.Strings.BuilderK
import Derived.Test.YtoeeipkiadbnpaaGreatDoorProg
section
namespace Go.Proofs
open Go Go.Shelf Go.RowKit
end Go.Proofs
end
