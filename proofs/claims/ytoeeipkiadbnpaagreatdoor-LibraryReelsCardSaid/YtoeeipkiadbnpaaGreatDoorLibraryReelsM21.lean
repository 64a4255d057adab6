/- Texts that the proof of LibraryReels needs, put together in build order by this session's program (wip/tools/claimtrim.py). -/
import Derived.Test.YtoeeipkiadbnpaaGreatDoorLibraryReelsM12
import Derived.Test.YtoeeipkiadbnpaaGreatDoorLibraryReelsM20
import Derived.SliceStrings
import Derived.Deep.Slices
import Derived.Test.YtoeeipkiadbnpaaGreatDoorRows
section
namespace Go.Proofs.YtoeeipkiadbnpaaGreatDoor.Lib10
open Go.ChangeShapes Go.WideShapes Go.ChangeAt Go.RowKit Go.Proofs.YtoeeipkiadbnpaaGreatDoorW.PrintWords Go.Proofs.YtoeeipkiadbnpaaGreatDoorW.PrintLast Go.Proofs.YtoeeipkiadbnpaaGreatDoorW.PrintMore
set_option linter.unusedVariables false
theorem cells9_ : Tryz.prog.cellsOf 9 = 1 := by kernel_rfl
theorem cells3_ : Tryz.prog.cellsOf 3 = 1 := by kernel_rfl
end Go.Proofs.YtoeeipkiadbnpaaGreatDoor.Lib10
end
