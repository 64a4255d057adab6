/- Texts that the proof of LibraryReels needs, put together in build order by this session's program (wip/tools/claimtrim.py). -/
import Derived.Test.YtoeeipkiadbnpaaGreatDoorRows
import Derived.Test.YtoeeipkiadbnpaaGreatDoorTie
import Derived.Test.YtoeeipkiadbnpaaGreatDoorCards
import Derived.SevenTiedAt
import Derived.JoinedCond
import Derived.ProofKit
section
namespace Go.Proofs.YtoeeipkiadbnpaaGreatDoor.libraryReels
open Go.ChangeShapes Go.WideShapes Go.ChangeAt Go.RowKit
set_option maxHeartbeats 4000000 in
theorem closed : joinedFacts Tryz.pinned.checked.prog 5 Tryz.f5 (OpenSpec.ofChange Rows.libraryReelsSpec).bare Rows.libraryReelsRow = true := by
  unfold joinedFacts
  simp only [Bool.and_eq_true]
  and_intros
  all_goals (as_aux_lemma => kernel_rfl)
end Go.Proofs.YtoeeipkiadbnpaaGreatDoor.libraryReels
end
