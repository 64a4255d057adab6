/- Texts that the proof of LibraryReels needs, put together in build order by this session's program (wip/tools/claimtrim.py). -/
import Derived.Test.YtoeeipkiadbnpaaGreatDoorLibraryReelsM20
import Derived.Shelf.SlSortCmp.NoneTotal
import Derived.Ground.SlsfProg
section
open Go Go.Proofs Go.RowKit
shelf_lay_g SlLaysF.n6 Slsf 6 at Tryz 180 as Tryz.sortF180
namespace Go.Proofs.YtoeeipkiadbnpaaGreatDoor.Lib10
open Go.RowKit Go.Proofs.YtoeeipkiadbnpaaGreatDoorW.PrintWords Go.Proofs.YtoeeipkiadbnpaaGreatDoorW.PrintLast Go.Proofs.YtoeeipkiadbnpaaGreatDoorW.PrintMore
set_option linter.unusedVariables false
section
set_option maxRecDepth 100000
set_option maxHeartbeats 2000000
end
end Go.Proofs.YtoeeipkiadbnpaaGreatDoor.Lib10
end
