/- Texts that the proof of LibraryChairs needs, put together in build order by this session's program (wip/tools/claimtrim.py). -/
import Derived.Test.YtoeeipkiadbnpaaGreatDoorLibraryChairsM2
import Derived.Laws.StructEq
section
namespace Go.Proofs.YtoeeipkiadbnpaaGreatDoorW.PrintWords
open Go.RowKit
section
variable {P : Program} {d : Nat} {xs ys : Array Value} {f : Field} {fs : List Field} {a b : Value} {r s : Bool} {w : World}
end
end Go.Proofs.YtoeeipkiadbnpaaGreatDoorW.PrintWords
end
