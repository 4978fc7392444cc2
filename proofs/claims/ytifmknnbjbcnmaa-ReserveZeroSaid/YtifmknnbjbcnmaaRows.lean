/-
  No cell of these rows narrows 'for every input' (looked for: loops, veiled, ifaces, maps, wideKeys, modest, calm, conditions, laid).
  DERIVED. THE GIVEN ROWS OF THIS SEAT. 7 by the template 'for every input the law returns true; each argument reads behind the call as it read before'; 0 by the template 'total and deterministic' (their statements: YtifmknnbjbcnmaaTotals.lean).
  GIVEN WITH THE SEED: the statements are not yours to turn. If you find one false, say at which input.
  Laid BY PROGRAM, IN A SANDBOX (cutbox-rows.mjs): the forced cells as the released guide's own fill.sh prints them over the translation 62d576acae52982d… (all of the seat's roots in one cut). By AI agents, Wed Nov 11 2026. No macro, syntax, notation, axiom, sorry.
-/
import Derived.Test.YtifmknnbjbcnmaaChecked
import GoSem.Claim
import GoSem.ClaimJoined
import GoSem.ClaimMapViews
import Derived.JoinedTies
import Derived.KernelRfl
namespace Go.Proofs.Ytifmknnbjbcnmaa
/- THE CELL 'sum', in the pinned program and in every row, IS THE sha256 OF THE DUMP (.gsa) THAT YtifmknnbjbcnmaaProg.lean LOADS. Nothing in Lean hashes anything: it is a label: what it is worth is what the hold of that sum in a sandbox is worth. -/
noncomputable def Try.pinned : Pinned := { name := "ytifmknnbjbcnmaa", sum := "62d576acae52982da09639f77161b5b6cdccbf45d187bd6f9124cffd837cce39", checked := Try.checked }
namespace Rows
def none {H : Type} : Left H := { results := [], args := [] }

/-- 'carillonlaw12.BankZero': WHATEVER THE INPUT: true; the input reads as it did. -/
def bankZeroSpec : ChangeSpec := { name := "bankZero", fn := fun _ => fun
  | [d] => { results := [.lit (.bool true)], args := [d] }
  | _ => none }
def bankZeroRow : OpenClaim := { program := "ytifmknnbjbcnmaa", sum := "62d576acae52982da09639f77161b5b6cdccbf45d187bd6f9124cffd837cce39", func := "carillon/carillonlaw12.BankZero", spec := "bankZero", unfollowed := true, recurses := true, apart := false }
def BankZeroSaid : Prop := bankZeroRow.holds Try.pinned (OpenSpec.ofChange bankZeroSpec)

/-- ITS FALSE NEIGHBOUR: 'it returns false'. Refute it at one input. -/
def bankZeroWrong : ChangeSpec := { name := "bankZero", fn := fun _ => fun
  | [d] => { results := [.lit (.bool false)], args := [d] }
  | _ => none }
def BankZeroWrongFalsely : Prop := bankZeroRow.holds Try.pinned (OpenSpec.ofChange bankZeroWrong)

/-- 'carillonlaw12.BankEither': WHATEVER THE INPUT: true; the input reads as it did. -/
def bankEitherSpec : ChangeSpec := { name := "bankEither", fn := fun _ => fun
  | [d1, d2, d3, d4] => { results := [.lit (.bool true)], args := [d1, d2, d3, d4] }
  | _ => none }
def bankEitherRow : OpenClaim := { program := "ytifmknnbjbcnmaa", sum := "62d576acae52982da09639f77161b5b6cdccbf45d187bd6f9124cffd837cce39", func := "carillon/carillonlaw12.BankEither", spec := "bankEither", unfollowed := true, recurses := true, apart := false }
def BankEitherSaid : Prop := bankEitherRow.holds Try.pinned (OpenSpec.ofChange bankEitherSpec)

/-- ITS FALSE NEIGHBOUR: 'it returns false'. Refute it at one input. -/
def bankEitherWrong : ChangeSpec := { name := "bankEither", fn := fun _ => fun
  | [d1, d2, d3, d4] => { results := [.lit (.bool false)], args := [d1, d2, d3, d4] }
  | _ => none }
def BankEitherWrongFalsely : Prop := bankEitherRow.holds Try.pinned (OpenSpec.ofChange bankEitherWrong)

/-- 'carillonlaw12.BankPlays': WHATEVER THE INPUT: true; the input reads as it did. -/
def bankPlaysSpec : ChangeSpec := { name := "bankPlays", fn := fun _ => fun
  | [d1, d2, d3, d4, d5, d6, d7] => { results := [.lit (.bool true)], args := [d1, d2, d3, d4, d5, d6, d7] }
  | _ => none }
def bankPlaysRow : OpenClaim := { program := "ytifmknnbjbcnmaa", sum := "62d576acae52982da09639f77161b5b6cdccbf45d187bd6f9124cffd837cce39", func := "carillon/carillonlaw12.BankPlays", spec := "bankPlays", unfollowed := true, recurses := true, apart := false }
def BankPlaysSaid : Prop := bankPlaysRow.holds Try.pinned (OpenSpec.ofChange bankPlaysSpec)

/-- ITS FALSE NEIGHBOUR: 'it returns false'. Refute it at one input. -/
def bankPlaysWrong : ChangeSpec := { name := "bankPlays", fn := fun _ => fun
  | [d1, d2, d3, d4, d5, d6, d7] => { results := [.lit (.bool false)], args := [d1, d2, d3, d4, d5, d6, d7] }
  | _ => none }
def BankPlaysWrongFalsely : Prop := bankPlaysRow.holds Try.pinned (OpenSpec.ofChange bankPlaysWrong)

/-- 'carillonlaw13.ReserveZero': WHATEVER THE INPUT: true; the input reads as it did. -/
def reserveZeroSpec : ChangeSpec := { name := "reserveZero", fn := fun _ => fun
  | [d] => { results := [.lit (.bool true)], args := [d] }
  | _ => none }
def reserveZeroRow : OpenClaim := { program := "ytifmknnbjbcnmaa", sum := "62d576acae52982da09639f77161b5b6cdccbf45d187bd6f9124cffd837cce39", func := "carillon/carillonlaw13.ReserveZero", spec := "reserveZero", unfollowed := true, recurses := true, apart := false }
def ReserveZeroSaid : Prop := reserveZeroRow.holds Try.pinned (OpenSpec.ofChange reserveZeroSpec)

/-- ITS FALSE NEIGHBOUR: 'it returns false'. Refute it at one input. -/
def reserveZeroWrong : ChangeSpec := { name := "reserveZero", fn := fun _ => fun
  | [d] => { results := [.lit (.bool false)], args := [d] }
  | _ => none }
def ReserveZeroWrongFalsely : Prop := reserveZeroRow.holds Try.pinned (OpenSpec.ofChange reserveZeroWrong)

/-- 'carillonlaw13.ReserveRises': WHATEVER THE INPUT: true; the input reads as it did. -/
def reserveRisesSpec : ChangeSpec := { name := "reserveRises", fn := fun _ => fun
  | [d1, d2] => { results := [.lit (.bool true)], args := [d1, d2] }
  | _ => none }
def reserveRisesRow : OpenClaim := { program := "ytifmknnbjbcnmaa", sum := "62d576acae52982da09639f77161b5b6cdccbf45d187bd6f9124cffd837cce39", func := "carillon/carillonlaw13.ReserveRises", spec := "reserveRises", unfollowed := true, recurses := true, apart := false }
def ReserveRisesSaid : Prop := reserveRisesRow.holds Try.pinned (OpenSpec.ofChange reserveRisesSpec)

/-- ITS FALSE NEIGHBOUR: 'it returns false'. Refute it at one input. -/
def reserveRisesWrong : ChangeSpec := { name := "reserveRises", fn := fun _ => fun
  | [d1, d2] => { results := [.lit (.bool false)], args := [d1, d2] }
  | _ => none }
def ReserveRisesWrongFalsely : Prop := reserveRisesRow.holds Try.pinned (OpenSpec.ofChange reserveRisesWrong)

/-- 'carillonlaw13.ReserveOnce': WHATEVER THE INPUT: true; the input reads as it did. -/
def reserveOnceSpec : ChangeSpec := { name := "reserveOnce", fn := fun _ => fun
  | [d1, d2, d3, d4, d5] => { results := [.lit (.bool true)], args := [d1, d2, d3, d4, d5] }
  | _ => none }
def reserveOnceRow : OpenClaim := { program := "ytifmknnbjbcnmaa", sum := "62d576acae52982da09639f77161b5b6cdccbf45d187bd6f9124cffd837cce39", func := "carillon/carillonlaw13.ReserveOnce", spec := "reserveOnce", unfollowed := true, recurses := true, apart := false }
def ReserveOnceSaid : Prop := reserveOnceRow.holds Try.pinned (OpenSpec.ofChange reserveOnceSpec)

/-- ITS FALSE NEIGHBOUR: 'it returns false'. Refute it at one input. -/
def reserveOnceWrong : ChangeSpec := { name := "reserveOnce", fn := fun _ => fun
  | [d1, d2, d3, d4, d5] => { results := [.lit (.bool false)], args := [d1, d2, d3, d4, d5] }
  | _ => none }
def ReserveOnceWrongFalsely : Prop := reserveOnceRow.holds Try.pinned (OpenSpec.ofChange reserveOnceWrong)

/-- 'carillonlaw13.ReservePlays': WHATEVER THE INPUT: true; the input reads as it did. -/
def reservePlaysSpec : ChangeSpec := { name := "reservePlays", fn := fun _ => fun
  | [d1, d2, d3, d4, d5, d6] => { results := [.lit (.bool true)], args := [d1, d2, d3, d4, d5, d6] }
  | _ => none }
def reservePlaysRow : OpenClaim := { program := "ytifmknnbjbcnmaa", sum := "62d576acae52982da09639f77161b5b6cdccbf45d187bd6f9124cffd837cce39", func := "carillon/carillonlaw13.ReservePlays", spec := "reservePlays", unfollowed := true, recurses := true, apart := false }
def ReservePlaysSaid : Prop := reservePlaysRow.holds Try.pinned (OpenSpec.ofChange reservePlaysSpec)

/-- ITS FALSE NEIGHBOUR: 'it returns false'. Refute it at one input. -/
def reservePlaysWrong : ChangeSpec := { name := "reservePlays", fn := fun _ => fun
  | [d1, d2, d3, d4, d5, d6] => { results := [.lit (.bool false)], args := [d1, d2, d3, d4, d5, d6] }
  | _ => none }
def ReservePlaysWrongFalsely : Prop := reservePlaysRow.holds Try.pinned (OpenSpec.ofChange reservePlaysWrong)

/- THE SECOND FORM. 'bulk': how many values and letters a reading holds, each counted each time it is reached (what is shared counts as often as it is met; a slice's spare places count too). A statement '..UptoSaid' is the law's where the arguments, and the package variables that the reading takes, are together of bulk at most 1048576: NARROWER than '..Said'. Prove '..Said' where nothing that the law and all that it calls make is longer than what came in: it says more and counts as full. Else prove '..UptoSaid'. A law counts once. -/
mutual
def uptoBulk {H : Type} : DataW H → Nat
  | .lit (.string bytes) => bytes.length + 1
  | .lit _ => 1
  | .nil => 1
  | .ptr d => uptoBulk d + 1
  | .slice elems spare => uptoBulkAll elems + uptoBulkAll spare + 1
  | .agg parts => uptoBulkAll parts + 1
  | .iface _ d => uptoBulk d + 1
  | .map entries => uptoBulkEntries entries + 1
  | .held _ => 1
def uptoBulkAll {H : Type} : List (DataW H) → Nat
  | [] => 0
  | d :: r => uptoBulk d + uptoBulkAll r
def uptoBulkEntries {H : Type} : List (Lit × DataW H) → Nat
  | [] => 0
  | x :: r => uptoBulkEntry x + uptoBulkEntries r
def uptoBulkEntry {H : Type} : Lit × DataW H → Nat
  | (.string bytes, d) => bytes.length + uptoBulk d + 1
  | (_, d) => uptoBulk d + 1
 end
def uptoSmall : (H : Type) → List (DataW H) → Bool := fun _ ds => decide (uptoBulkAll ds ≤ 1048576)
def OpenSpec.upto (s : _root_.Go.ChangeSpec) : _root_.Go.OpenSpec := { _root_.Go.OpenSpec.ofChange s with cond := some uptoSmall }

/-- 'carillonlaw12.BankZero', WHERE WHAT IT READS IS OF BULK AT MOST 1048576: true; the input reads as it did. -/
def bankZeroUptoRow : OpenClaim := { program := "ytifmknnbjbcnmaa", sum := "62d576acae52982da09639f77161b5b6cdccbf45d187bd6f9124cffd837cce39", func := "carillon/carillonlaw12.BankZero", spec := "bankZero", unfollowed := true, recurses := true, apart := false, narrowed := true }
def BankZeroUptoSaid : Prop := bankZeroUptoRow.holds Try.pinned (OpenSpec.upto bankZeroSpec)

/-- 'carillonlaw12.BankEither', WHERE WHAT IT READS IS OF BULK AT MOST 1048576: true; the input reads as it did. -/
def bankEitherUptoRow : OpenClaim := { program := "ytifmknnbjbcnmaa", sum := "62d576acae52982da09639f77161b5b6cdccbf45d187bd6f9124cffd837cce39", func := "carillon/carillonlaw12.BankEither", spec := "bankEither", unfollowed := true, recurses := true, apart := false, narrowed := true }
def BankEitherUptoSaid : Prop := bankEitherUptoRow.holds Try.pinned (OpenSpec.upto bankEitherSpec)

/-- 'carillonlaw12.BankPlays', WHERE WHAT IT READS IS OF BULK AT MOST 1048576: true; the input reads as it did. -/
def bankPlaysUptoRow : OpenClaim := { program := "ytifmknnbjbcnmaa", sum := "62d576acae52982da09639f77161b5b6cdccbf45d187bd6f9124cffd837cce39", func := "carillon/carillonlaw12.BankPlays", spec := "bankPlays", unfollowed := true, recurses := true, apart := false, narrowed := true }
def BankPlaysUptoSaid : Prop := bankPlaysUptoRow.holds Try.pinned (OpenSpec.upto bankPlaysSpec)

/-- 'carillonlaw13.ReserveZero', WHERE WHAT IT READS IS OF BULK AT MOST 1048576: true; the input reads as it did. -/
def reserveZeroUptoRow : OpenClaim := { program := "ytifmknnbjbcnmaa", sum := "62d576acae52982da09639f77161b5b6cdccbf45d187bd6f9124cffd837cce39", func := "carillon/carillonlaw13.ReserveZero", spec := "reserveZero", unfollowed := true, recurses := true, apart := false, narrowed := true }
def ReserveZeroUptoSaid : Prop := reserveZeroUptoRow.holds Try.pinned (OpenSpec.upto reserveZeroSpec)

/-- 'carillonlaw13.ReserveRises', WHERE WHAT IT READS IS OF BULK AT MOST 1048576: true; the input reads as it did. -/
def reserveRisesUptoRow : OpenClaim := { program := "ytifmknnbjbcnmaa", sum := "62d576acae52982da09639f77161b5b6cdccbf45d187bd6f9124cffd837cce39", func := "carillon/carillonlaw13.ReserveRises", spec := "reserveRises", unfollowed := true, recurses := true, apart := false, narrowed := true }
def ReserveRisesUptoSaid : Prop := reserveRisesUptoRow.holds Try.pinned (OpenSpec.upto reserveRisesSpec)

/-- 'carillonlaw13.ReserveOnce', WHERE WHAT IT READS IS OF BULK AT MOST 1048576: true; the input reads as it did. -/
def reserveOnceUptoRow : OpenClaim := { program := "ytifmknnbjbcnmaa", sum := "62d576acae52982da09639f77161b5b6cdccbf45d187bd6f9124cffd837cce39", func := "carillon/carillonlaw13.ReserveOnce", spec := "reserveOnce", unfollowed := true, recurses := true, apart := false, narrowed := true }
def ReserveOnceUptoSaid : Prop := reserveOnceUptoRow.holds Try.pinned (OpenSpec.upto reserveOnceSpec)

/-- 'carillonlaw13.ReservePlays', WHERE WHAT IT READS IS OF BULK AT MOST 1048576: true; the input reads as it did. -/
def reservePlaysUptoRow : OpenClaim := { program := "ytifmknnbjbcnmaa", sum := "62d576acae52982da09639f77161b5b6cdccbf45d187bd6f9124cffd837cce39", func := "carillon/carillonlaw13.ReservePlays", spec := "reservePlays", unfollowed := true, recurses := true, apart := false, narrowed := true }
def ReservePlaysUptoSaid : Prop := reservePlaysUptoRow.holds Try.pinned (OpenSpec.upto reservePlaysSpec)

end Rows
end Go.Proofs.Ytifmknnbjbcnmaa
