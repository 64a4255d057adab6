/- Texts that the proof of LibraryReels needs, put together in build order by this session's program (wip/tools/claimtrim.py). -/
import Derived.Test.YtoeeipkiadbnpaaGreatDoorLibraryReelsM20
import Derived.Test.YtoeeipkiadbnpaaGreatDoorLibraryReelsM19
import Derived.Shelf.SlIter.Nil
import Derived.Shelf.SortM.Plain
import Derived.Shelf.SortM.SortNone
import Derived.Ground.GgzProg
import Derived.Ground.SlgmProg
section
open Go Go.Proofs Go.RowKit
shelf_lay_g SlLaysZ.n7 Ggz 7 at Tryz 132 as Tryz.keys132
shelf_lay_g SlLaysZ.n7 Ggz 7 at Tryz 80 as Tryz.keys80
shelf_lay_g SlLaysZ.n6 Ggz 6 at Tryz 79 as Tryz.sorted79
shelf_lay_g SlLaysM.n6 Slgm 6 at Tryz 126 as Tryz.sort126
namespace Go.Proofs.YtoeeipkiadbnpaaGreatDoor.Lib10
open Go.RowKit Go.Maps Go.Sort Go.Shelf Go.Proofs.YtoeeipkiadbnpaaGreatDoorW.PrintWords Go.Proofs.YtoeeipkiadbnpaaGreatDoorW.PrintLast Go.Proofs.YtoeeipkiadbnpaaGreatDoorW.PrintMore
set_option linter.unusedVariables false
end Go.Proofs.YtoeeipkiadbnpaaGreatDoor.Lib10
end
