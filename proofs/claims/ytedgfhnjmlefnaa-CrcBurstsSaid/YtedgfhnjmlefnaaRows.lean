/-
  No cell of these rows narrows 'for every input' (looked for: loops, veiled, ifaces, maps, wideKeys, modest, calm, conditions, laid).
  DERIVED. THE GIVEN ROWS OF THIS SEAT. 11 by the template 'for every input the law returns true; each argument reads behind the call as it read before'; 0 by the template 'total and deterministic' (their statements: YtedgfhnjmlefnaaTotals.lean).
  GIVEN WITH THE SEED: the statements are not yours to turn. If you find one false, say at which input.
  Laid BY PROGRAM, IN A SANDBOX (cutbox-rows.mjs): the forced cells as the released guide's own fill.sh prints them over the translation 651130063b384a3e… (all of the seat's roots in one cut). By AI agents, Wed Nov 11 2026. No macro, syntax, notation, axiom, sorry.
-/
import Derived.Test.YtedgfhnjmlefnaaChecked
import GoSem.Claim
import GoSem.ClaimJoined
import GoSem.ClaimMapViews
import Derived.JoinedTies
import Derived.KernelRfl
namespace Go.Proofs.Ytedgfhnjmlefnaa
/- THE CELL 'sum', in the pinned program and in every row, IS THE sha256 OF THE DUMP (.gsa) THAT YtedgfhnjmlefnaaProg.lean LOADS. Nothing in Lean hashes anything: it is a label: what it is worth is what the hold of that sum in a sandbox is worth. -/
noncomputable def Try.pinned : Pinned := { name := "ytedgfhnjmlefnaa", sum := "651130063b384a3e375902e70b3ce4e527466d4bd28b241ae7ba8cd7f1be81b6", checked := Try.checked }
namespace Rows
def none {H : Type} : Left H := { results := [], args := [] }

/-- 'carillonlaw01.WordTurns': WHATEVER THE INPUT: true; the input reads as it did. -/
def wordTurnsSpec : ChangeSpec := { name := "wordTurns", fn := fun _ => fun
  | [d1, d2] => { results := [.lit (.bool true)], args := [d1, d2] }
  | _ => none }
def wordTurnsRow : OpenClaim := { program := "ytedgfhnjmlefnaa", sum := "651130063b384a3e375902e70b3ce4e527466d4bd28b241ae7ba8cd7f1be81b6", func := "carillon/carillonlaw01.WordTurns", spec := "wordTurns", apart := false }
def WordTurnsSaid : Prop := wordTurnsRow.holds Try.pinned (OpenSpec.ofChange wordTurnsSpec)

/-- ITS FALSE NEIGHBOUR: 'it returns false'. Refute it at one input. -/
def wordTurnsWrong : ChangeSpec := { name := "wordTurns", fn := fun _ => fun
  | [d1, d2] => { results := [.lit (.bool false)], args := [d1, d2] }
  | _ => none }
def WordTurnsWrongFalsely : Prop := wordTurnsRow.holds Try.pinned (OpenSpec.ofChange wordTurnsWrong)

/-- 'carillonlaw01.WordXors': WHATEVER THE INPUT: true; the input reads as it did. -/
def wordXorsSpec : ChangeSpec := { name := "wordXors", fn := fun _ => fun
  | [d1, d2] => { results := [.lit (.bool true)], args := [d1, d2] }
  | _ => none }
def wordXorsRow : OpenClaim := { program := "ytedgfhnjmlefnaa", sum := "651130063b384a3e375902e70b3ce4e527466d4bd28b241ae7ba8cd7f1be81b6", func := "carillon/carillonlaw01.WordXors", spec := "wordXors", apart := false }
def WordXorsSaid : Prop := wordXorsRow.holds Try.pinned (OpenSpec.ofChange wordXorsSpec)

/-- ITS FALSE NEIGHBOUR: 'it returns false'. Refute it at one input. -/
def wordXorsWrong : ChangeSpec := { name := "wordXors", fn := fun _ => fun
  | [d1, d2] => { results := [.lit (.bool false)], args := [d1, d2] }
  | _ => none }
def WordXorsWrongFalsely : Prop := wordXorsRow.holds Try.pinned (OpenSpec.ofChange wordXorsWrong)

/-- 'carillonlaw01.WordUndone': WHATEVER THE INPUT: true; the input reads as it did. -/
def wordUndoneSpec : ChangeSpec := { name := "wordUndone", fn := fun _ => fun
  | [d1, d2] => { results := [.lit (.bool true)], args := [d1, d2] }
  | _ => none }
def wordUndoneRow : OpenClaim := { program := "ytedgfhnjmlefnaa", sum := "651130063b384a3e375902e70b3ce4e527466d4bd28b241ae7ba8cd7f1be81b6", func := "carillon/carillonlaw01.WordUndone", spec := "wordUndone", apart := false }
def WordUndoneSaid : Prop := wordUndoneRow.holds Try.pinned (OpenSpec.ofChange wordUndoneSpec)

/-- ITS FALSE NEIGHBOUR: 'it returns false'. Refute it at one input. -/
def wordUndoneWrong : ChangeSpec := { name := "wordUndone", fn := fun _ => fun
  | [d1, d2] => { results := [.lit (.bool false)], args := [d1, d2] }
  | _ => none }
def WordUndoneWrongFalsely : Prop := wordUndoneRow.holds Try.pinned (OpenSpec.ofChange wordUndoneWrong)

/-- 'carillonlaw01.WordBack': WHATEVER THE INPUT: true; the input reads as it did. -/
def wordBackSpec : ChangeSpec := { name := "wordBack", fn := fun _ => fun
  | [d1, d2, d3] => { results := [.lit (.bool true)], args := [d1, d2, d3] }
  | _ => none }
def wordBackRow : OpenClaim := { program := "ytedgfhnjmlefnaa", sum := "651130063b384a3e375902e70b3ce4e527466d4bd28b241ae7ba8cd7f1be81b6", func := "carillon/carillonlaw01.WordBack", spec := "wordBack", apart := false }
def WordBackSaid : Prop := wordBackRow.holds Try.pinned (OpenSpec.ofChange wordBackSpec)

/-- ITS FALSE NEIGHBOUR: 'it returns false'. Refute it at one input. -/
def wordBackWrong : ChangeSpec := { name := "wordBack", fn := fun _ => fun
  | [d1, d2, d3] => { results := [.lit (.bool false)], args := [d1, d2, d3] }
  | _ => none }
def WordBackWrongFalsely : Prop := wordBackRow.holds Try.pinned (OpenSpec.ofChange wordBackWrong)

/-- 'carillonlaw01.WordDigits': WHATEVER THE INPUT: true; the input reads as it did. -/
def wordDigitsSpec : ChangeSpec := { name := "wordDigits", fn := fun _ => fun
  | [d1, d2] => { results := [.lit (.bool true)], args := [d1, d2] }
  | _ => none }
def wordDigitsRow : OpenClaim := { program := "ytedgfhnjmlefnaa", sum := "651130063b384a3e375902e70b3ce4e527466d4bd28b241ae7ba8cd7f1be81b6", func := "carillon/carillonlaw01.WordDigits", spec := "wordDigits", apart := false }
def WordDigitsSaid : Prop := wordDigitsRow.holds Try.pinned (OpenSpec.ofChange wordDigitsSpec)

/-- ITS FALSE NEIGHBOUR: 'it returns false'. Refute it at one input. -/
def wordDigitsWrong : ChangeSpec := { name := "wordDigits", fn := fun _ => fun
  | [d1, d2] => { results := [.lit (.bool false)], args := [d1, d2] }
  | _ => none }
def WordDigitsWrongFalsely : Prop := wordDigitsRow.holds Try.pinned (OpenSpec.ofChange wordDigitsWrong)

/-- 'carillonlaw01.WordHexes': WHATEVER THE INPUT: true; the input reads as it did. -/
def wordHexesSpec : ChangeSpec := { name := "wordHexes", fn := fun _ => fun
  | [d1, d2] => { results := [.lit (.bool true)], args := [d1, d2] }
  | _ => none }
def wordHexesRow : OpenClaim := { program := "ytedgfhnjmlefnaa", sum := "651130063b384a3e375902e70b3ce4e527466d4bd28b241ae7ba8cd7f1be81b6", func := "carillon/carillonlaw01.WordHexes", spec := "wordHexes", apart := false }
def WordHexesSaid : Prop := wordHexesRow.holds Try.pinned (OpenSpec.ofChange wordHexesSpec)

/-- ITS FALSE NEIGHBOUR: 'it returns false'. Refute it at one input. -/
def wordHexesWrong : ChangeSpec := { name := "wordHexes", fn := fun _ => fun
  | [d1, d2] => { results := [.lit (.bool false)], args := [d1, d2] }
  | _ => none }
def WordHexesWrongFalsely : Prop := wordHexesRow.holds Try.pinned (OpenSpec.ofChange wordHexesWrong)

/-- 'carillonlaw01.WordLoads': WHATEVER THE INPUT: true; the input reads as it did. -/
def wordLoadsSpec : ChangeSpec := { name := "wordLoads", fn := fun _ => fun
  | [d1, d2, d3, d4] => { results := [.lit (.bool true)], args := [d1, d2, d3, d4] }
  | _ => none }
def wordLoadsRow : OpenClaim := { program := "ytedgfhnjmlefnaa", sum := "651130063b384a3e375902e70b3ce4e527466d4bd28b241ae7ba8cd7f1be81b6", func := "carillon/carillonlaw01.WordLoads", spec := "wordLoads", apart := false }
def WordLoadsSaid : Prop := wordLoadsRow.holds Try.pinned (OpenSpec.ofChange wordLoadsSpec)

/-- ITS FALSE NEIGHBOUR: 'it returns false'. Refute it at one input. -/
def wordLoadsWrong : ChangeSpec := { name := "wordLoads", fn := fun _ => fun
  | [d1, d2, d3, d4] => { results := [.lit (.bool false)], args := [d1, d2, d3, d4] }
  | _ => none }
def WordLoadsWrongFalsely : Prop := wordLoadsRow.holds Try.pinned (OpenSpec.ofChange wordLoadsWrong)

/-- 'carillonlaw05.CrcGood': WHATEVER THE INPUT: true; the input reads as it did. -/
def crcGoodSpec : ChangeSpec := { name := "crcGood", fn := fun _ => fun
  | [d] => { results := [.lit (.bool true)], args := [d] }
  | _ => none }
def crcGoodRow : OpenClaim := { program := "ytedgfhnjmlefnaa", sum := "651130063b384a3e375902e70b3ce4e527466d4bd28b241ae7ba8cd7f1be81b6", func := "carillon/carillonlaw05.CrcGood", spec := "crcGood", unfollowed := true, recurses := true, apart := false }
def CrcGoodSaid : Prop := crcGoodRow.holds Try.pinned (OpenSpec.ofChange crcGoodSpec)

/-- ITS FALSE NEIGHBOUR: 'it returns false'. Refute it at one input. -/
def crcGoodWrong : ChangeSpec := { name := "crcGood", fn := fun _ => fun
  | [d] => { results := [.lit (.bool false)], args := [d] }
  | _ => none }
def CrcGoodWrongFalsely : Prop := crcGoodRow.holds Try.pinned (OpenSpec.ofChange crcGoodWrong)

/-- 'carillonlaw05.CrcBursts': WHATEVER THE INPUT: true; the input reads as it did. -/
def crcBurstsSpec : ChangeSpec := { name := "crcBursts", fn := fun _ => fun
  | [d1, d2, d3] => { results := [.lit (.bool true)], args := [d1, d2, d3] }
  | _ => none }
def crcBurstsRow : OpenClaim := { program := "ytedgfhnjmlefnaa", sum := "651130063b384a3e375902e70b3ce4e527466d4bd28b241ae7ba8cd7f1be81b6", func := "carillon/carillonlaw05.CrcBursts", spec := "crcBursts", unfollowed := true, recurses := true, apart := false }
def CrcBurstsSaid : Prop := crcBurstsRow.holds Try.pinned (OpenSpec.ofChange crcBurstsSpec)

/-- ITS FALSE NEIGHBOUR: 'it returns false'. Refute it at one input. -/
def crcBurstsWrong : ChangeSpec := { name := "crcBursts", fn := fun _ => fun
  | [d1, d2, d3] => { results := [.lit (.bool false)], args := [d1, d2, d3] }
  | _ => none }
def CrcBurstsWrongFalsely : Prop := crcBurstsRow.holds Try.pinned (OpenSpec.ofChange crcBurstsWrong)

/-- 'carillonlaw05.CrcLinear': WHATEVER THE INPUT: true; the input reads as it did. -/
def crcLinearSpec : ChangeSpec := { name := "crcLinear", fn := fun _ => fun
  | [d1, d2, d3, d4] => { results := [.lit (.bool true)], args := [d1, d2, d3, d4] }
  | _ => none }
def crcLinearRow : OpenClaim := { program := "ytedgfhnjmlefnaa", sum := "651130063b384a3e375902e70b3ce4e527466d4bd28b241ae7ba8cd7f1be81b6", func := "carillon/carillonlaw05.CrcLinear", spec := "crcLinear", unfollowed := true, recurses := true, apart := false }
def CrcLinearSaid : Prop := crcLinearRow.holds Try.pinned (OpenSpec.ofChange crcLinearSpec)

/-- ITS FALSE NEIGHBOUR: 'it returns false'. Refute it at one input. -/
def crcLinearWrong : ChangeSpec := { name := "crcLinear", fn := fun _ => fun
  | [d1, d2, d3, d4] => { results := [.lit (.bool false)], args := [d1, d2, d3, d4] }
  | _ => none }
def CrcLinearWrongFalsely : Prop := crcLinearRow.holds Try.pinned (OpenSpec.ofChange crcLinearWrong)

/-- 'carillonlaw05.CrcSums': WHATEVER THE INPUT: true; the input reads as it did. -/
def crcSumsSpec : ChangeSpec := { name := "crcSums", fn := fun _ => fun
  | [d1, d2, d3, d4] => { results := [.lit (.bool true)], args := [d1, d2, d3, d4] }
  | _ => none }
def crcSumsRow : OpenClaim := { program := "ytedgfhnjmlefnaa", sum := "651130063b384a3e375902e70b3ce4e527466d4bd28b241ae7ba8cd7f1be81b6", func := "carillon/carillonlaw05.CrcSums", spec := "crcSums", unfollowed := true, recurses := true, apart := false }
def CrcSumsSaid : Prop := crcSumsRow.holds Try.pinned (OpenSpec.ofChange crcSumsSpec)

/-- ITS FALSE NEIGHBOUR: 'it returns false'. Refute it at one input. -/
def crcSumsWrong : ChangeSpec := { name := "crcSums", fn := fun _ => fun
  | [d1, d2, d3, d4] => { results := [.lit (.bool false)], args := [d1, d2, d3, d4] }
  | _ => none }
def CrcSumsWrongFalsely : Prop := crcSumsRow.holds Try.pinned (OpenSpec.ofChange crcSumsWrong)

/- THE SECOND FORM. 'bulk': how many values and letters a reading holds, each counted each time it is reached (what is shared counts as often as it is met; a slice's spare places count too). A statement '..UptoSaid' is the law's where the arguments, and the package variables that the reading takes, are together of bulk at most 1048576: NARROWER than '..Said'. Prove '..Said' where nothing that the law and all that it calls make is longer than what came in: it says more and counts as full. Else prove '..UptoSaid'. A law counts once. -/
mutual
def uptoBulk {H : Type} : DataW H → Nat
  | .lit (.string bytes) => bytes.length + 1
  | .lit _ => 1
  | .nil => 1
  | .ptr d => uptoBulk d + 1
  | .slice elems spare => uptoBulkAll elems + uptoBulkAll spare + 1
  | .agg parts => uptoBulkAll parts + 1
  | .iface _ d => uptoBulk d + 1
  | .map entries => uptoBulkEntries entries + 1
  | .held _ => 1
def uptoBulkAll {H : Type} : List (DataW H) → Nat
  | [] => 0
  | d :: r => uptoBulk d + uptoBulkAll r
def uptoBulkEntries {H : Type} : List (Lit × DataW H) → Nat
  | [] => 0
  | x :: r => uptoBulkEntry x + uptoBulkEntries r
def uptoBulkEntry {H : Type} : Lit × DataW H → Nat
  | (.string bytes, d) => bytes.length + uptoBulk d + 1
  | (_, d) => uptoBulk d + 1
 end
def uptoSmall : (H : Type) → List (DataW H) → Bool := fun _ ds => decide (uptoBulkAll ds ≤ 1048576)
def OpenSpec.upto (s : _root_.Go.ChangeSpec) : _root_.Go.OpenSpec := { _root_.Go.OpenSpec.ofChange s with cond := some uptoSmall }

/-- 'carillonlaw01.WordTurns', WHERE WHAT IT READS IS OF BULK AT MOST 1048576: true; the input reads as it did. -/
def wordTurnsUptoRow : OpenClaim := { program := "ytedgfhnjmlefnaa", sum := "651130063b384a3e375902e70b3ce4e527466d4bd28b241ae7ba8cd7f1be81b6", func := "carillon/carillonlaw01.WordTurns", spec := "wordTurns", apart := false, narrowed := true }
def WordTurnsUptoSaid : Prop := wordTurnsUptoRow.holds Try.pinned (OpenSpec.upto wordTurnsSpec)

/-- 'carillonlaw01.WordXors', WHERE WHAT IT READS IS OF BULK AT MOST 1048576: true; the input reads as it did. -/
def wordXorsUptoRow : OpenClaim := { program := "ytedgfhnjmlefnaa", sum := "651130063b384a3e375902e70b3ce4e527466d4bd28b241ae7ba8cd7f1be81b6", func := "carillon/carillonlaw01.WordXors", spec := "wordXors", apart := false, narrowed := true }
def WordXorsUptoSaid : Prop := wordXorsUptoRow.holds Try.pinned (OpenSpec.upto wordXorsSpec)

/-- 'carillonlaw01.WordUndone', WHERE WHAT IT READS IS OF BULK AT MOST 1048576: true; the input reads as it did. -/
def wordUndoneUptoRow : OpenClaim := { program := "ytedgfhnjmlefnaa", sum := "651130063b384a3e375902e70b3ce4e527466d4bd28b241ae7ba8cd7f1be81b6", func := "carillon/carillonlaw01.WordUndone", spec := "wordUndone", apart := false, narrowed := true }
def WordUndoneUptoSaid : Prop := wordUndoneUptoRow.holds Try.pinned (OpenSpec.upto wordUndoneSpec)

/-- 'carillonlaw01.WordBack', WHERE WHAT IT READS IS OF BULK AT MOST 1048576: true; the input reads as it did. -/
def wordBackUptoRow : OpenClaim := { program := "ytedgfhnjmlefnaa", sum := "651130063b384a3e375902e70b3ce4e527466d4bd28b241ae7ba8cd7f1be81b6", func := "carillon/carillonlaw01.WordBack", spec := "wordBack", apart := false, narrowed := true }
def WordBackUptoSaid : Prop := wordBackUptoRow.holds Try.pinned (OpenSpec.upto wordBackSpec)

/-- 'carillonlaw01.WordDigits', WHERE WHAT IT READS IS OF BULK AT MOST 1048576: true; the input reads as it did. -/
def wordDigitsUptoRow : OpenClaim := { program := "ytedgfhnjmlefnaa", sum := "651130063b384a3e375902e70b3ce4e527466d4bd28b241ae7ba8cd7f1be81b6", func := "carillon/carillonlaw01.WordDigits", spec := "wordDigits", apart := false, narrowed := true }
def WordDigitsUptoSaid : Prop := wordDigitsUptoRow.holds Try.pinned (OpenSpec.upto wordDigitsSpec)

/-- 'carillonlaw01.WordHexes', WHERE WHAT IT READS IS OF BULK AT MOST 1048576: true; the input reads as it did. -/
def wordHexesUptoRow : OpenClaim := { program := "ytedgfhnjmlefnaa", sum := "651130063b384a3e375902e70b3ce4e527466d4bd28b241ae7ba8cd7f1be81b6", func := "carillon/carillonlaw01.WordHexes", spec := "wordHexes", apart := false, narrowed := true }
def WordHexesUptoSaid : Prop := wordHexesUptoRow.holds Try.pinned (OpenSpec.upto wordHexesSpec)

/-- 'carillonlaw01.WordLoads', WHERE WHAT IT READS IS OF BULK AT MOST 1048576: true; the input reads as it did. -/
def wordLoadsUptoRow : OpenClaim := { program := "ytedgfhnjmlefnaa", sum := "651130063b384a3e375902e70b3ce4e527466d4bd28b241ae7ba8cd7f1be81b6", func := "carillon/carillonlaw01.WordLoads", spec := "wordLoads", apart := false, narrowed := true }
def WordLoadsUptoSaid : Prop := wordLoadsUptoRow.holds Try.pinned (OpenSpec.upto wordLoadsSpec)

/-- 'carillonlaw05.CrcGood', WHERE WHAT IT READS IS OF BULK AT MOST 1048576: true; the input reads as it did. -/
def crcGoodUptoRow : OpenClaim := { program := "ytedgfhnjmlefnaa", sum := "651130063b384a3e375902e70b3ce4e527466d4bd28b241ae7ba8cd7f1be81b6", func := "carillon/carillonlaw05.CrcGood", spec := "crcGood", unfollowed := true, recurses := true, apart := false, narrowed := true }
def CrcGoodUptoSaid : Prop := crcGoodUptoRow.holds Try.pinned (OpenSpec.upto crcGoodSpec)

/-- 'carillonlaw05.CrcBursts', WHERE WHAT IT READS IS OF BULK AT MOST 1048576: true; the input reads as it did. -/
def crcBurstsUptoRow : OpenClaim := { program := "ytedgfhnjmlefnaa", sum := "651130063b384a3e375902e70b3ce4e527466d4bd28b241ae7ba8cd7f1be81b6", func := "carillon/carillonlaw05.CrcBursts", spec := "crcBursts", unfollowed := true, recurses := true, apart := false, narrowed := true }
def CrcBurstsUptoSaid : Prop := crcBurstsUptoRow.holds Try.pinned (OpenSpec.upto crcBurstsSpec)

/-- 'carillonlaw05.CrcLinear', WHERE WHAT IT READS IS OF BULK AT MOST 1048576: true; the input reads as it did. -/
def crcLinearUptoRow : OpenClaim := { program := "ytedgfhnjmlefnaa", sum := "651130063b384a3e375902e70b3ce4e527466d4bd28b241ae7ba8cd7f1be81b6", func := "carillon/carillonlaw05.CrcLinear", spec := "crcLinear", unfollowed := true, recurses := true, apart := false, narrowed := true }
def CrcLinearUptoSaid : Prop := crcLinearUptoRow.holds Try.pinned (OpenSpec.upto crcLinearSpec)

/-- 'carillonlaw05.CrcSums', WHERE WHAT IT READS IS OF BULK AT MOST 1048576: true; the input reads as it did. -/
def crcSumsUptoRow : OpenClaim := { program := "ytedgfhnjmlefnaa", sum := "651130063b384a3e375902e70b3ce4e527466d4bd28b241ae7ba8cd7f1be81b6", func := "carillon/carillonlaw05.CrcSums", spec := "crcSums", unfollowed := true, recurses := true, apart := false, narrowed := true }
def CrcSumsUptoSaid : Prop := crcSumsUptoRow.holds Try.pinned (OpenSpec.upto crcSumsSpec)

end Rows
end Go.Proofs.Ytedgfhnjmlefnaa
