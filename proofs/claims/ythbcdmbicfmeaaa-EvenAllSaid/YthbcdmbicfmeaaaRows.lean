/-
  No cell of these rows narrows 'for every input' (looked for: loops, veiled, ifaces, maps, wideKeys, modest, calm, conditions, laid).
  DERIVED. THE GIVEN ROWS OF THIS SEAT. 11 by the template 'for every input the law returns true; each argument reads behind the call as it read before'; 0 by the template 'total and deterministic' (their statements: YthbcdmbicfmeaaaTotals.lean).
  GIVEN WITH THE SEED: the statements are not yours to turn. If you find one false, say at which input.
  Laid BY PROGRAM, IN A SANDBOX (cutbox-rows.mjs): the forced cells as the released guide's own fill.sh prints them over the translation 4387aa468263c6e3… (all of the seat's roots in one cut). By AI agents, Wed Nov 11 2026. No macro, syntax, notation, axiom, sorry.
-/
import Derived.Test.YthbcdmbicfmeaaaChecked
import GoSem.Claim
import GoSem.ClaimJoined
import GoSem.ClaimMapViews
import Derived.JoinedTies
import Derived.KernelRfl
namespace Go.Proofs.Ythbcdmbicfmeaaa
/- THE CELL 'sum', in the pinned program and in every row, IS THE sha256 OF THE DUMP (.gsa) THAT YthbcdmbicfmeaaaProg.lean LOADS. Nothing in Lean hashes anything: it is a label: what it is worth is what the hold of that sum in a sandbox is worth. -/
noncomputable def Try.pinned : Pinned := { name := "ythbcdmbicfmeaaa", sum := "4387aa468263c6e38c4cbff5aca59196d808cda0d9159af07cad20dff32fb5de", checked := Try.checked }
namespace Rows
def none {H : Type} : Left H := { results := [], args := [] }

/-- 'sackbutlaw03.EvenSums': WHATEVER THE INPUT: true; the input reads as it did. -/
def evenSumsSpec : ChangeSpec := { name := "evenSums", fn := fun _ => fun
  | [d1, d2] => { results := [.lit (.bool true)], args := [d1, d2] }
  | _ => none }
def evenSumsRow : OpenClaim := { program := "ythbcdmbicfmeaaa", sum := "4387aa468263c6e38c4cbff5aca59196d808cda0d9159af07cad20dff32fb5de", func := "sackbut/sackbutlaw03.EvenSums", spec := "evenSums", apart := false }
def EvenSumsSaid : Prop := evenSumsRow.holds Try.pinned (OpenSpec.ofChange evenSumsSpec)

/-- ITS FALSE NEIGHBOUR: 'it returns false'. Refute it at one input. -/
def evenSumsWrong : ChangeSpec := { name := "evenSums", fn := fun _ => fun
  | [d1, d2] => { results := [.lit (.bool false)], args := [d1, d2] }
  | _ => none }
def EvenSumsWrongFalsely : Prop := evenSumsRow.holds Try.pinned (OpenSpec.ofChange evenSumsWrong)

/-- 'sackbutlaw03.EvenSteps': WHATEVER THE INPUT: true; the input reads as it did. -/
def evenStepsSpec : ChangeSpec := { name := "evenSteps", fn := fun _ => fun
  | [d1, d2, d3] => { results := [.lit (.bool true)], args := [d1, d2, d3] }
  | _ => none }
def evenStepsRow : OpenClaim := { program := "ythbcdmbicfmeaaa", sum := "4387aa468263c6e38c4cbff5aca59196d808cda0d9159af07cad20dff32fb5de", func := "sackbut/sackbutlaw03.EvenSteps", spec := "evenSteps", apart := false }
def EvenStepsSaid : Prop := evenStepsRow.holds Try.pinned (OpenSpec.ofChange evenStepsSpec)

/-- ITS FALSE NEIGHBOUR: 'it returns false'. Refute it at one input. -/
def evenStepsWrong : ChangeSpec := { name := "evenSteps", fn := fun _ => fun
  | [d1, d2, d3] => { results := [.lit (.bool false)], args := [d1, d2, d3] }
  | _ => none }
def EvenStepsWrongFalsely : Prop := evenStepsRow.holds Try.pinned (OpenSpec.ofChange evenStepsWrong)

/-- 'sackbutlaw03.EvenSpreads': WHATEVER THE INPUT: true; the input reads as it did. -/
def evenSpreadsSpec : ChangeSpec := { name := "evenSpreads", fn := fun _ => fun
  | [d1, d2, d3] => { results := [.lit (.bool true)], args := [d1, d2, d3] }
  | _ => none }
def evenSpreadsRow : OpenClaim := { program := "ythbcdmbicfmeaaa", sum := "4387aa468263c6e38c4cbff5aca59196d808cda0d9159af07cad20dff32fb5de", func := "sackbut/sackbutlaw03.EvenSpreads", spec := "evenSpreads", apart := false }
def EvenSpreadsSaid : Prop := evenSpreadsRow.holds Try.pinned (OpenSpec.ofChange evenSpreadsSpec)

/-- ITS FALSE NEIGHBOUR: 'it returns false'. Refute it at one input. -/
def evenSpreadsWrong : ChangeSpec := { name := "evenSpreads", fn := fun _ => fun
  | [d1, d2, d3] => { results := [.lit (.bool false)], args := [d1, d2, d3] }
  | _ => none }
def EvenSpreadsWrongFalsely : Prop := evenSpreadsRow.holds Try.pinned (OpenSpec.ofChange evenSpreadsWrong)

/-- 'sackbutlaw03.EvenOthers': WHATEVER THE INPUT: true; the input reads as it did. -/
def evenOthersSpec : ChangeSpec := { name := "evenOthers", fn := fun _ => fun
  | [d1, d2] => { results := [.lit (.bool true)], args := [d1, d2] }
  | _ => none }
def evenOthersRow : OpenClaim := { program := "ythbcdmbicfmeaaa", sum := "4387aa468263c6e38c4cbff5aca59196d808cda0d9159af07cad20dff32fb5de", func := "sackbut/sackbutlaw03.EvenOthers", spec := "evenOthers", unfollowed := true, recurses := true, apart := false }
def EvenOthersSaid : Prop := evenOthersRow.holds Try.pinned (OpenSpec.ofChange evenOthersSpec)

/-- ITS FALSE NEIGHBOUR: 'it returns false'. Refute it at one input. -/
def evenOthersWrong : ChangeSpec := { name := "evenOthers", fn := fun _ => fun
  | [d1, d2] => { results := [.lit (.bool false)], args := [d1, d2] }
  | _ => none }
def EvenOthersWrongFalsely : Prop := evenOthersRow.holds Try.pinned (OpenSpec.ofChange evenOthersWrong)

/-- 'sackbutlaw03.EvenMakers': WHATEVER THE INPUT: true; the input reads as it did. -/
def evenMakersSpec : ChangeSpec := { name := "evenMakers", fn := fun _ => fun
  | [d1, d2] => { results := [.lit (.bool true)], args := [d1, d2] }
  | _ => none }
def evenMakersRow : OpenClaim := { program := "ythbcdmbicfmeaaa", sum := "4387aa468263c6e38c4cbff5aca59196d808cda0d9159af07cad20dff32fb5de", func := "sackbut/sackbutlaw03.EvenMakers", spec := "evenMakers", unfollowed := true, recurses := true, apart := false }
def EvenMakersSaid : Prop := evenMakersRow.holds Try.pinned (OpenSpec.ofChange evenMakersSpec)

/-- ITS FALSE NEIGHBOUR: 'it returns false'. Refute it at one input. -/
def evenMakersWrong : ChangeSpec := { name := "evenMakers", fn := fun _ => fun
  | [d1, d2] => { results := [.lit (.bool false)], args := [d1, d2] }
  | _ => none }
def EvenMakersWrongFalsely : Prop := evenMakersRow.holds Try.pinned (OpenSpec.ofChange evenMakersWrong)

/-- 'sackbutlaw03.EvenWords': WHATEVER THE INPUT: true; the input reads as it did. -/
def evenWordsSpec : ChangeSpec := { name := "evenWords", fn := fun _ => fun
  | [d1, d2, d3] => { results := [.lit (.bool true)], args := [d1, d2, d3] }
  | _ => none }
def evenWordsRow : OpenClaim := { program := "ythbcdmbicfmeaaa", sum := "4387aa468263c6e38c4cbff5aca59196d808cda0d9159af07cad20dff32fb5de", func := "sackbut/sackbutlaw03.EvenWords", spec := "evenWords", unfollowed := true, recurses := true, apart := false }
def EvenWordsSaid : Prop := evenWordsRow.holds Try.pinned (OpenSpec.ofChange evenWordsSpec)

/-- ITS FALSE NEIGHBOUR: 'it returns false'. Refute it at one input. -/
def evenWordsWrong : ChangeSpec := { name := "evenWords", fn := fun _ => fun
  | [d1, d2, d3] => { results := [.lit (.bool false)], args := [d1, d2, d3] }
  | _ => none }
def EvenWordsWrongFalsely : Prop := evenWordsRow.holds Try.pinned (OpenSpec.ofChange evenWordsWrong)

/-- 'sackbutlaw03.EvenTwo': WHATEVER THE INPUT: true; the input reads as it did. -/
def evenTwoSpec : ChangeSpec := { name := "evenTwo", fn := fun _ => fun
  | [d1, d2] => { results := [.lit (.bool true)], args := [d1, d2] }
  | _ => none }
def evenTwoRow : OpenClaim := { program := "ythbcdmbicfmeaaa", sum := "4387aa468263c6e38c4cbff5aca59196d808cda0d9159af07cad20dff32fb5de", func := "sackbut/sackbutlaw03.EvenTwo", spec := "evenTwo", unfollowed := true, recurses := true, apart := false }
def EvenTwoSaid : Prop := evenTwoRow.holds Try.pinned (OpenSpec.ofChange evenTwoSpec)

/-- ITS FALSE NEIGHBOUR: 'it returns false'. Refute it at one input. -/
def evenTwoWrong : ChangeSpec := { name := "evenTwo", fn := fun _ => fun
  | [d1, d2] => { results := [.lit (.bool false)], args := [d1, d2] }
  | _ => none }
def EvenTwoWrongFalsely : Prop := evenTwoRow.holds Try.pinned (OpenSpec.ofChange evenTwoWrong)

/-- 'sackbutlaw03.EvenTurns': WHATEVER THE INPUT: true; the input reads as it did. -/
def evenTurnsSpec : ChangeSpec := { name := "evenTurns", fn := fun _ => fun
  | [d1, d2, d3, d4, d5] => { results := [.lit (.bool true)], args := [d1, d2, d3, d4, d5] }
  | _ => none }
def evenTurnsRow : OpenClaim := { program := "ythbcdmbicfmeaaa", sum := "4387aa468263c6e38c4cbff5aca59196d808cda0d9159af07cad20dff32fb5de", func := "sackbut/sackbutlaw03.EvenTurns", spec := "evenTurns", unfollowed := true, recurses := true, apart := false }
def EvenTurnsSaid : Prop := evenTurnsRow.holds Try.pinned (OpenSpec.ofChange evenTurnsSpec)

/-- ITS FALSE NEIGHBOUR: 'it returns false'. Refute it at one input. -/
def evenTurnsWrong : ChangeSpec := { name := "evenTurns", fn := fun _ => fun
  | [d1, d2, d3, d4, d5] => { results := [.lit (.bool false)], args := [d1, d2, d3, d4, d5] }
  | _ => none }
def EvenTurnsWrongFalsely : Prop := evenTurnsRow.holds Try.pinned (OpenSpec.ofChange evenTurnsWrong)

/-- 'sackbutlaw03.EvenLists': WHATEVER THE INPUT: true; the input reads as it did. -/
def evenListsSpec : ChangeSpec := { name := "evenLists", fn := fun _ => fun
  | [d1, d2] => { results := [.lit (.bool true)], args := [d1, d2] }
  | _ => none }
def evenListsRow : OpenClaim := { program := "ythbcdmbicfmeaaa", sum := "4387aa468263c6e38c4cbff5aca59196d808cda0d9159af07cad20dff32fb5de", func := "sackbut/sackbutlaw03.EvenLists", spec := "evenLists", unfollowed := true, recurses := true, apart := false }
def EvenListsSaid : Prop := evenListsRow.holds Try.pinned (OpenSpec.ofChange evenListsSpec)

/-- ITS FALSE NEIGHBOUR: 'it returns false'. Refute it at one input. -/
def evenListsWrong : ChangeSpec := { name := "evenLists", fn := fun _ => fun
  | [d1, d2] => { results := [.lit (.bool false)], args := [d1, d2] }
  | _ => none }
def EvenListsWrongFalsely : Prop := evenListsRow.holds Try.pinned (OpenSpec.ofChange evenListsWrong)

/-- 'sackbutlaw03.EvenMost': WHATEVER THE INPUT: true; the input reads as it did. -/
def evenMostSpec : ChangeSpec := { name := "evenMost", fn := fun _ => fun
  | [d1, d2, d3] => { results := [.lit (.bool true)], args := [d1, d2, d3] }
  | _ => none }
def evenMostRow : OpenClaim := { program := "ythbcdmbicfmeaaa", sum := "4387aa468263c6e38c4cbff5aca59196d808cda0d9159af07cad20dff32fb5de", func := "sackbut/sackbutlaw03.EvenMost", spec := "evenMost", unfollowed := true, recurses := true, apart := false }
def EvenMostSaid : Prop := evenMostRow.holds Try.pinned (OpenSpec.ofChange evenMostSpec)

/-- ITS FALSE NEIGHBOUR: 'it returns false'. Refute it at one input. -/
def evenMostWrong : ChangeSpec := { name := "evenMost", fn := fun _ => fun
  | [d1, d2, d3] => { results := [.lit (.bool false)], args := [d1, d2, d3] }
  | _ => none }
def EvenMostWrongFalsely : Prop := evenMostRow.holds Try.pinned (OpenSpec.ofChange evenMostWrong)

/-- 'sackbutlaw03.EvenAll': WHATEVER THE INPUT: true; the input reads as it did. -/
def evenAllSpec : ChangeSpec := { name := "evenAll", fn := fun _ => fun
  | [d1, d2, d3] => { results := [.lit (.bool true)], args := [d1, d2, d3] }
  | _ => none }
def evenAllRow : OpenClaim := { program := "ythbcdmbicfmeaaa", sum := "4387aa468263c6e38c4cbff5aca59196d808cda0d9159af07cad20dff32fb5de", func := "sackbut/sackbutlaw03.EvenAll", spec := "evenAll", unfollowed := true, recurses := true, apart := false }
def EvenAllSaid : Prop := evenAllRow.holds Try.pinned (OpenSpec.ofChange evenAllSpec)

/-- ITS FALSE NEIGHBOUR: 'it returns false'. Refute it at one input. -/
def evenAllWrong : ChangeSpec := { name := "evenAll", fn := fun _ => fun
  | [d1, d2, d3] => { results := [.lit (.bool false)], args := [d1, d2, d3] }
  | _ => none }
def EvenAllWrongFalsely : Prop := evenAllRow.holds Try.pinned (OpenSpec.ofChange evenAllWrong)

/- THE SECOND FORM. 'bulk': how many values and letters a reading holds, each counted each time it is reached (what is shared counts as often as it is met; a slice's spare places count too). A statement '..UptoSaid' is the law's where the arguments, and the package variables that the reading takes, are together of bulk at most 1048576: NARROWER than '..Said'. Prove '..Said' where nothing that the law and all that it calls make is longer than what came in: it says more and counts as full. Else prove '..UptoSaid'. A law counts once. -/
mutual
def uptoBulk {H : Type} : DataW H → Nat
  | .lit (.string bytes) => bytes.length + 1
  | .lit _ => 1
  | .nil => 1
  | .ptr d => uptoBulk d + 1
  | .slice elems spare => uptoBulkAll elems + uptoBulkAll spare + 1
  | .agg parts => uptoBulkAll parts + 1
  | .iface _ d => uptoBulk d + 1
  | .map entries => uptoBulkEntries entries + 1
  | .held _ => 1
def uptoBulkAll {H : Type} : List (DataW H) → Nat
  | [] => 0
  | d :: r => uptoBulk d + uptoBulkAll r
def uptoBulkEntries {H : Type} : List (Lit × DataW H) → Nat
  | [] => 0
  | x :: r => uptoBulkEntry x + uptoBulkEntries r
def uptoBulkEntry {H : Type} : Lit × DataW H → Nat
  | (.string bytes, d) => bytes.length + uptoBulk d + 1
  | (_, d) => uptoBulk d + 1
 end
def uptoSmall : (H : Type) → List (DataW H) → Bool := fun _ ds => decide (uptoBulkAll ds ≤ 1048576)
def OpenSpec.upto (s : _root_.Go.ChangeSpec) : _root_.Go.OpenSpec := { _root_.Go.OpenSpec.ofChange s with cond := some uptoSmall }

/-- 'sackbutlaw03.EvenSums', WHERE WHAT IT READS IS OF BULK AT MOST 1048576: true; the input reads as it did. -/
def evenSumsUptoRow : OpenClaim := { program := "ythbcdmbicfmeaaa", sum := "4387aa468263c6e38c4cbff5aca59196d808cda0d9159af07cad20dff32fb5de", func := "sackbut/sackbutlaw03.EvenSums", spec := "evenSums", apart := false, narrowed := true }
def EvenSumsUptoSaid : Prop := evenSumsUptoRow.holds Try.pinned (OpenSpec.upto evenSumsSpec)

/-- 'sackbutlaw03.EvenSteps', WHERE WHAT IT READS IS OF BULK AT MOST 1048576: true; the input reads as it did. -/
def evenStepsUptoRow : OpenClaim := { program := "ythbcdmbicfmeaaa", sum := "4387aa468263c6e38c4cbff5aca59196d808cda0d9159af07cad20dff32fb5de", func := "sackbut/sackbutlaw03.EvenSteps", spec := "evenSteps", apart := false, narrowed := true }
def EvenStepsUptoSaid : Prop := evenStepsUptoRow.holds Try.pinned (OpenSpec.upto evenStepsSpec)

/-- 'sackbutlaw03.EvenSpreads', WHERE WHAT IT READS IS OF BULK AT MOST 1048576: true; the input reads as it did. -/
def evenSpreadsUptoRow : OpenClaim := { program := "ythbcdmbicfmeaaa", sum := "4387aa468263c6e38c4cbff5aca59196d808cda0d9159af07cad20dff32fb5de", func := "sackbut/sackbutlaw03.EvenSpreads", spec := "evenSpreads", apart := false, narrowed := true }
def EvenSpreadsUptoSaid : Prop := evenSpreadsUptoRow.holds Try.pinned (OpenSpec.upto evenSpreadsSpec)

/-- 'sackbutlaw03.EvenOthers', WHERE WHAT IT READS IS OF BULK AT MOST 1048576: true; the input reads as it did. -/
def evenOthersUptoRow : OpenClaim := { program := "ythbcdmbicfmeaaa", sum := "4387aa468263c6e38c4cbff5aca59196d808cda0d9159af07cad20dff32fb5de", func := "sackbut/sackbutlaw03.EvenOthers", spec := "evenOthers", unfollowed := true, recurses := true, apart := false, narrowed := true }
def EvenOthersUptoSaid : Prop := evenOthersUptoRow.holds Try.pinned (OpenSpec.upto evenOthersSpec)

/-- 'sackbutlaw03.EvenMakers', WHERE WHAT IT READS IS OF BULK AT MOST 1048576: true; the input reads as it did. -/
def evenMakersUptoRow : OpenClaim := { program := "ythbcdmbicfmeaaa", sum := "4387aa468263c6e38c4cbff5aca59196d808cda0d9159af07cad20dff32fb5de", func := "sackbut/sackbutlaw03.EvenMakers", spec := "evenMakers", unfollowed := true, recurses := true, apart := false, narrowed := true }
def EvenMakersUptoSaid : Prop := evenMakersUptoRow.holds Try.pinned (OpenSpec.upto evenMakersSpec)

/-- 'sackbutlaw03.EvenWords', WHERE WHAT IT READS IS OF BULK AT MOST 1048576: true; the input reads as it did. -/
def evenWordsUptoRow : OpenClaim := { program := "ythbcdmbicfmeaaa", sum := "4387aa468263c6e38c4cbff5aca59196d808cda0d9159af07cad20dff32fb5de", func := "sackbut/sackbutlaw03.EvenWords", spec := "evenWords", unfollowed := true, recurses := true, apart := false, narrowed := true }
def EvenWordsUptoSaid : Prop := evenWordsUptoRow.holds Try.pinned (OpenSpec.upto evenWordsSpec)

/-- 'sackbutlaw03.EvenTwo', WHERE WHAT IT READS IS OF BULK AT MOST 1048576: true; the input reads as it did. -/
def evenTwoUptoRow : OpenClaim := { program := "ythbcdmbicfmeaaa", sum := "4387aa468263c6e38c4cbff5aca59196d808cda0d9159af07cad20dff32fb5de", func := "sackbut/sackbutlaw03.EvenTwo", spec := "evenTwo", unfollowed := true, recurses := true, apart := false, narrowed := true }
def EvenTwoUptoSaid : Prop := evenTwoUptoRow.holds Try.pinned (OpenSpec.upto evenTwoSpec)

/-- 'sackbutlaw03.EvenTurns', WHERE WHAT IT READS IS OF BULK AT MOST 1048576: true; the input reads as it did. -/
def evenTurnsUptoRow : OpenClaim := { program := "ythbcdmbicfmeaaa", sum := "4387aa468263c6e38c4cbff5aca59196d808cda0d9159af07cad20dff32fb5de", func := "sackbut/sackbutlaw03.EvenTurns", spec := "evenTurns", unfollowed := true, recurses := true, apart := false, narrowed := true }
def EvenTurnsUptoSaid : Prop := evenTurnsUptoRow.holds Try.pinned (OpenSpec.upto evenTurnsSpec)

/-- 'sackbutlaw03.EvenLists', WHERE WHAT IT READS IS OF BULK AT MOST 1048576: true; the input reads as it did. -/
def evenListsUptoRow : OpenClaim := { program := "ythbcdmbicfmeaaa", sum := "4387aa468263c6e38c4cbff5aca59196d808cda0d9159af07cad20dff32fb5de", func := "sackbut/sackbutlaw03.EvenLists", spec := "evenLists", unfollowed := true, recurses := true, apart := false, narrowed := true }
def EvenListsUptoSaid : Prop := evenListsUptoRow.holds Try.pinned (OpenSpec.upto evenListsSpec)

/-- 'sackbutlaw03.EvenMost', WHERE WHAT IT READS IS OF BULK AT MOST 1048576: true; the input reads as it did. -/
def evenMostUptoRow : OpenClaim := { program := "ythbcdmbicfmeaaa", sum := "4387aa468263c6e38c4cbff5aca59196d808cda0d9159af07cad20dff32fb5de", func := "sackbut/sackbutlaw03.EvenMost", spec := "evenMost", unfollowed := true, recurses := true, apart := false, narrowed := true }
def EvenMostUptoSaid : Prop := evenMostUptoRow.holds Try.pinned (OpenSpec.upto evenMostSpec)

/-- 'sackbutlaw03.EvenAll', WHERE WHAT IT READS IS OF BULK AT MOST 1048576: true; the input reads as it did. -/
def evenAllUptoRow : OpenClaim := { program := "ythbcdmbicfmeaaa", sum := "4387aa468263c6e38c4cbff5aca59196d808cda0d9159af07cad20dff32fb5de", func := "sackbut/sackbutlaw03.EvenAll", spec := "evenAll", unfollowed := true, recurses := true, apart := false, narrowed := true }
def EvenAllUptoSaid : Prop := evenAllUptoRow.holds Try.pinned (OpenSpec.upto evenAllSpec)

end Rows
end Go.Proofs.Ythbcdmbicfmeaaa
