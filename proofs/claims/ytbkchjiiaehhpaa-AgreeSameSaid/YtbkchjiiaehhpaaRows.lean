/-
  No cell of these rows narrows 'for every input' (looked for: loops, veiled, ifaces, maps, wideKeys, modest, calm, conditions, laid).
  DERIVED. THE GIVEN ROWS OF THIS SEAT. 12 by the template 'for every input the law returns true; each argument reads behind the call as it read before'; 0 by the template 'total and deterministic' (their statements: YtbkchjiiaehhpaaTotals.lean).
  GIVEN WITH THE SEED: the statements are not yours to turn. If you find one false, say at which input.
  Laid BY PROGRAM, IN A SANDBOX (cutbox-rows.mjs): the forced cells as the released guide's own fill.sh prints them over the translation 21c9ca89a78105cf… (all of the seat's roots in one cut). By AI agents, Wed Nov 11 2026. No macro, syntax, notation, axiom, sorry.
-/
import Derived.Test.YtbkchjiiaehhpaaChecked
import GoSem.Claim
import GoSem.ClaimJoined
import GoSem.ClaimMapViews
import Derived.JoinedTies
import Derived.KernelRfl
namespace Go.Proofs.Ytbkchjiiaehhpaa
/- THE CELL 'sum', in the pinned program and in every row, IS THE sha256 OF THE DUMP (.gsa) THAT YtbkchjiiaehhpaaProg.lean LOADS. Nothing in Lean hashes anything: it is a label: what it is worth is what the hold of that sum in a sandbox is worth. -/
noncomputable def Try.pinned : Pinned := { name := "ytbkchjiiaehhpaa", sum := "21c9ca89a78105cf27b446c9ca2e81518970a2bb149b13fed1a73f95fc044d65", checked := Try.checked }
namespace Rows
def none {H : Type} : Left H := { results := [], args := [] }

/-- 'carillonlaw02.ShaDigests': WHATEVER THE INPUT: true; the input reads as it did. -/
def shaDigestsSpec : ChangeSpec := { name := "shaDigests", fn := fun _ => fun
  | [d] => { results := [.lit (.bool true)], args := [d] }
  | _ => none }
def shaDigestsRow : OpenClaim := { program := "ytbkchjiiaehhpaa", sum := "21c9ca89a78105cf27b446c9ca2e81518970a2bb149b13fed1a73f95fc044d65", func := "carillon/carillonlaw02.ShaDigests", spec := "shaDigests", plainKeys := false, apart := false }
def ShaDigestsSaid : Prop := shaDigestsRow.holds Try.pinned (OpenSpec.ofChange shaDigestsSpec)

/-- ITS FALSE NEIGHBOUR: 'it returns false'. Refute it at one input. -/
def shaDigestsWrong : ChangeSpec := { name := "shaDigests", fn := fun _ => fun
  | [d] => { results := [.lit (.bool false)], args := [d] }
  | _ => none }
def ShaDigestsWrongFalsely : Prop := shaDigestsRow.holds Try.pinned (OpenSpec.ofChange shaDigestsWrong)

/-- 'carillonlaw02.ShaCuts': WHATEVER THE INPUT: true; the input reads as it did. -/
def shaCutsSpec : ChangeSpec := { name := "shaCuts", fn := fun _ => fun
  | [d1, d2] => { results := [.lit (.bool true)], args := [d1, d2] }
  | _ => none }
def shaCutsRow : OpenClaim := { program := "ytbkchjiiaehhpaa", sum := "21c9ca89a78105cf27b446c9ca2e81518970a2bb149b13fed1a73f95fc044d65", func := "carillon/carillonlaw02.ShaCuts", spec := "shaCuts", plainKeys := false, apart := false }
def ShaCutsSaid : Prop := shaCutsRow.holds Try.pinned (OpenSpec.ofChange shaCutsSpec)

/-- ITS FALSE NEIGHBOUR: 'it returns false'. Refute it at one input. -/
def shaCutsWrong : ChangeSpec := { name := "shaCuts", fn := fun _ => fun
  | [d1, d2] => { results := [.lit (.bool false)], args := [d1, d2] }
  | _ => none }
def ShaCutsWrongFalsely : Prop := shaCutsRow.holds Try.pinned (OpenSpec.ofChange shaCutsWrong)

/-- 'carillonlaw02.ShaRoots': WHATEVER THE INPUT: true; the input reads as it did. -/
def shaRootsSpec : ChangeSpec := { name := "shaRoots", fn := fun _ => fun
  | [d] => { results := [.lit (.bool true)], args := [d] }
  | _ => none }
def shaRootsRow : OpenClaim := { program := "ytbkchjiiaehhpaa", sum := "21c9ca89a78105cf27b446c9ca2e81518970a2bb149b13fed1a73f95fc044d65", func := "carillon/carillonlaw02.ShaRoots", spec := "shaRoots", plainKeys := false, apart := false }
def ShaRootsSaid : Prop := shaRootsRow.holds Try.pinned (OpenSpec.ofChange shaRootsSpec)

/-- ITS FALSE NEIGHBOUR: 'it returns false'. Refute it at one input. -/
def shaRootsWrong : ChangeSpec := { name := "shaRoots", fn := fun _ => fun
  | [d] => { results := [.lit (.bool false)], args := [d] }
  | _ => none }
def ShaRootsWrongFalsely : Prop := shaRootsRow.holds Try.pinned (OpenSpec.ofChange shaRootsWrong)

/-- 'carillonlaw02.ShaBlocks': WHATEVER THE INPUT: true; the input reads as it did. -/
def shaBlocksSpec : ChangeSpec := { name := "shaBlocks", fn := fun _ => fun
  | [d1, d2] => { results := [.lit (.bool true)], args := [d1, d2] }
  | _ => none }
def shaBlocksRow : OpenClaim := { program := "ytbkchjiiaehhpaa", sum := "21c9ca89a78105cf27b446c9ca2e81518970a2bb149b13fed1a73f95fc044d65", func := "carillon/carillonlaw02.ShaBlocks", spec := "shaBlocks", plainKeys := false, apart := false }
def ShaBlocksSaid : Prop := shaBlocksRow.holds Try.pinned (OpenSpec.ofChange shaBlocksSpec)

/-- ITS FALSE NEIGHBOUR: 'it returns false'. Refute it at one input. -/
def shaBlocksWrong : ChangeSpec := { name := "shaBlocks", fn := fun _ => fun
  | [d1, d2] => { results := [.lit (.bool false)], args := [d1, d2] }
  | _ => none }
def ShaBlocksWrongFalsely : Prop := shaBlocksRow.holds Try.pinned (OpenSpec.ofChange shaBlocksWrong)

/-- 'carillonlaw02.ShaPlays': WHATEVER THE INPUT: true; the input reads as it did. -/
def shaPlaysSpec : ChangeSpec := { name := "shaPlays", fn := fun _ => fun
  | [d1, d2] => { results := [.lit (.bool true)], args := [d1, d2] }
  | _ => none }
def shaPlaysRow : OpenClaim := { program := "ytbkchjiiaehhpaa", sum := "21c9ca89a78105cf27b446c9ca2e81518970a2bb149b13fed1a73f95fc044d65", func := "carillon/carillonlaw02.ShaPlays", spec := "shaPlays", plainKeys := false, apart := false }
def ShaPlaysSaid : Prop := shaPlaysRow.holds Try.pinned (OpenSpec.ofChange shaPlaysSpec)

/-- ITS FALSE NEIGHBOUR: 'it returns false'. Refute it at one input. -/
def shaPlaysWrong : ChangeSpec := { name := "shaPlays", fn := fun _ => fun
  | [d1, d2] => { results := [.lit (.bool false)], args := [d1, d2] }
  | _ => none }
def ShaPlaysWrongFalsely : Prop := shaPlaysRow.holds Try.pinned (OpenSpec.ofChange shaPlaysWrong)

/-- 'carillonlaw34.AuditBegins': WHATEVER THE INPUT: true; the input reads as it did. -/
def auditBeginsSpec : ChangeSpec := { name := "auditBegins", fn := fun _ => fun
  | [d1, d2] => { results := [.lit (.bool true)], args := [d1, d2] }
  | _ => none }
def auditBeginsRow : OpenClaim := { program := "ytbkchjiiaehhpaa", sum := "21c9ca89a78105cf27b446c9ca2e81518970a2bb149b13fed1a73f95fc044d65", func := "carillon/carillonlaw34.AuditBegins", spec := "auditBegins", unfollowed := true, recurses := true, plainKeys := false, apart := false }
def AuditBeginsSaid : Prop := auditBeginsRow.holds Try.pinned (OpenSpec.ofChange auditBeginsSpec)

/-- ITS FALSE NEIGHBOUR: 'it returns false'. Refute it at one input. -/
def auditBeginsWrong : ChangeSpec := { name := "auditBegins", fn := fun _ => fun
  | [d1, d2] => { results := [.lit (.bool false)], args := [d1, d2] }
  | _ => none }
def AuditBeginsWrongFalsely : Prop := auditBeginsRow.holds Try.pinned (OpenSpec.ofChange auditBeginsWrong)

/-- 'carillonlaw27.AgreeZero': WHATEVER THE INPUT: true; the input reads as it did. -/
def agreeZeroSpec : ChangeSpec := { name := "agreeZero", fn := fun _ => fun
  | [d] => { results := [.lit (.bool true)], args := [d] }
  | _ => none }
def agreeZeroRow : OpenClaim := { program := "ytbkchjiiaehhpaa", sum := "21c9ca89a78105cf27b446c9ca2e81518970a2bb149b13fed1a73f95fc044d65", func := "carillon/carillonlaw27.AgreeZero", spec := "agreeZero", plainKeys := false, apart := false }
def AgreeZeroSaid : Prop := agreeZeroRow.holds Try.pinned (OpenSpec.ofChange agreeZeroSpec)

/-- ITS FALSE NEIGHBOUR: 'it returns false'. Refute it at one input. -/
def agreeZeroWrong : ChangeSpec := { name := "agreeZero", fn := fun _ => fun
  | [d] => { results := [.lit (.bool false)], args := [d] }
  | _ => none }
def AgreeZeroWrongFalsely : Prop := agreeZeroRow.holds Try.pinned (OpenSpec.ofChange agreeZeroWrong)

/-- 'carillonlaw27.AgreeSame': WHATEVER THE INPUT: true; the input reads as it did. -/
def agreeSameSpec : ChangeSpec := { name := "agreeSame", fn := fun _ => fun
  | [d1, d2, d3, d4, d5, d6, d7] => { results := [.lit (.bool true)], args := [d1, d2, d3, d4, d5, d6, d7] }
  | _ => none }
def agreeSameRow : OpenClaim := { program := "ytbkchjiiaehhpaa", sum := "21c9ca89a78105cf27b446c9ca2e81518970a2bb149b13fed1a73f95fc044d65", func := "carillon/carillonlaw27.AgreeSame", spec := "agreeSame", plainKeys := false, apart := false }
def AgreeSameSaid : Prop := agreeSameRow.holds Try.pinned (OpenSpec.ofChange agreeSameSpec)

/-- ITS FALSE NEIGHBOUR: 'it returns false'. Refute it at one input. -/
def agreeSameWrong : ChangeSpec := { name := "agreeSame", fn := fun _ => fun
  | [d1, d2, d3, d4, d5, d6, d7] => { results := [.lit (.bool false)], args := [d1, d2, d3, d4, d5, d6, d7] }
  | _ => none }
def AgreeSameWrongFalsely : Prop := agreeSameRow.holds Try.pinned (OpenSpec.ofChange agreeSameWrong)

/-- 'carillonlaw27.AgreeMost': WHATEVER THE INPUT: true; the input reads as it did. -/
def agreeMostSpec : ChangeSpec := { name := "agreeMost", fn := fun _ => fun
  | [d1, d2, d3, d4] => { results := [.lit (.bool true)], args := [d1, d2, d3, d4] }
  | _ => none }
def agreeMostRow : OpenClaim := { program := "ytbkchjiiaehhpaa", sum := "21c9ca89a78105cf27b446c9ca2e81518970a2bb149b13fed1a73f95fc044d65", func := "carillon/carillonlaw27.AgreeMost", spec := "agreeMost", plainKeys := false, apart := false }
def AgreeMostSaid : Prop := agreeMostRow.holds Try.pinned (OpenSpec.ofChange agreeMostSpec)

/-- ITS FALSE NEIGHBOUR: 'it returns false'. Refute it at one input. -/
def agreeMostWrong : ChangeSpec := { name := "agreeMost", fn := fun _ => fun
  | [d1, d2, d3, d4] => { results := [.lit (.bool false)], args := [d1, d2, d3, d4] }
  | _ => none }
def AgreeMostWrongFalsely : Prop := agreeMostRow.holds Try.pinned (OpenSpec.ofChange agreeMostWrong)

/-- 'carillonlaw34.AuditTaint': WHATEVER THE INPUT: true; the input reads as it did. -/
def auditTaintSpec : ChangeSpec := { name := "auditTaint", fn := fun _ => fun
  | [d] => { results := [.lit (.bool true)], args := [d] }
  | _ => none }
def auditTaintRow : OpenClaim := { program := "ytbkchjiiaehhpaa", sum := "21c9ca89a78105cf27b446c9ca2e81518970a2bb149b13fed1a73f95fc044d65", func := "carillon/carillonlaw34.AuditTaint", spec := "auditTaint", unfollowed := true, recurses := true, plainKeys := false, apart := false }
def AuditTaintSaid : Prop := auditTaintRow.holds Try.pinned (OpenSpec.ofChange auditTaintSpec)

/-- ITS FALSE NEIGHBOUR: 'it returns false'. Refute it at one input. -/
def auditTaintWrong : ChangeSpec := { name := "auditTaint", fn := fun _ => fun
  | [d] => { results := [.lit (.bool false)], args := [d] }
  | _ => none }
def AuditTaintWrongFalsely : Prop := auditTaintRow.holds Try.pinned (OpenSpec.ofChange auditTaintWrong)

/-- 'carillonlaw27.AgreePlays': WHATEVER THE INPUT: true; the input reads as it did. -/
def agreePlaysSpec : ChangeSpec := { name := "agreePlays", fn := fun _ => fun
  | [d1, d2, d3, d4] => { results := [.lit (.bool true)], args := [d1, d2, d3, d4] }
  | _ => none }
def agreePlaysRow : OpenClaim := { program := "ytbkchjiiaehhpaa", sum := "21c9ca89a78105cf27b446c9ca2e81518970a2bb149b13fed1a73f95fc044d65", func := "carillon/carillonlaw27.AgreePlays", spec := "agreePlays", plainKeys := false, apart := false }
def AgreePlaysSaid : Prop := agreePlaysRow.holds Try.pinned (OpenSpec.ofChange agreePlaysSpec)

/-- ITS FALSE NEIGHBOUR: 'it returns false'. Refute it at one input. -/
def agreePlaysWrong : ChangeSpec := { name := "agreePlays", fn := fun _ => fun
  | [d1, d2, d3, d4] => { results := [.lit (.bool false)], args := [d1, d2, d3, d4] }
  | _ => none }
def AgreePlaysWrongFalsely : Prop := agreePlaysRow.holds Try.pinned (OpenSpec.ofChange agreePlaysWrong)

/-- 'carillonlaw34.AuditClean': WHATEVER THE INPUT: true; the input reads as it did. -/
def auditCleanSpec : ChangeSpec := { name := "auditClean", fn := fun _ => fun
  | [d1, d2, d3] => { results := [.lit (.bool true)], args := [d1, d2, d3] }
  | _ => none }
def auditCleanRow : OpenClaim := { program := "ytbkchjiiaehhpaa", sum := "21c9ca89a78105cf27b446c9ca2e81518970a2bb149b13fed1a73f95fc044d65", func := "carillon/carillonlaw34.AuditClean", spec := "auditClean", unfollowed := true, recurses := true, plainKeys := false, apart := false }
def AuditCleanSaid : Prop := auditCleanRow.holds Try.pinned (OpenSpec.ofChange auditCleanSpec)

/-- ITS FALSE NEIGHBOUR: 'it returns false'. Refute it at one input. -/
def auditCleanWrong : ChangeSpec := { name := "auditClean", fn := fun _ => fun
  | [d1, d2, d3] => { results := [.lit (.bool false)], args := [d1, d2, d3] }
  | _ => none }
def AuditCleanWrongFalsely : Prop := auditCleanRow.holds Try.pinned (OpenSpec.ofChange auditCleanWrong)

/- THE SECOND FORM. 'bulk': how many values and letters a reading holds, each counted each time it is reached (what is shared counts as often as it is met; a slice's spare places count too). A statement '..UptoSaid' is the law's where the arguments, and the package variables that the reading takes, are together of bulk at most 1048576: NARROWER than '..Said'. Prove '..Said' where nothing that the law and all that it calls make is longer than what came in: it says more and counts as full. Else prove '..UptoSaid'. A law counts once. -/
mutual
def uptoBulk {H : Type} : DataW H → Nat
  | .lit (.string bytes) => bytes.length + 1
  | .lit _ => 1
  | .nil => 1
  | .ptr d => uptoBulk d + 1
  | .slice elems spare => uptoBulkAll elems + uptoBulkAll spare + 1
  | .agg parts => uptoBulkAll parts + 1
  | .iface _ d => uptoBulk d + 1
  | .map entries => uptoBulkEntries entries + 1
  | .held _ => 1
def uptoBulkAll {H : Type} : List (DataW H) → Nat
  | [] => 0
  | d :: r => uptoBulk d + uptoBulkAll r
def uptoBulkEntries {H : Type} : List (Lit × DataW H) → Nat
  | [] => 0
  | x :: r => uptoBulkEntry x + uptoBulkEntries r
def uptoBulkEntry {H : Type} : Lit × DataW H → Nat
  | (.string bytes, d) => bytes.length + uptoBulk d + 1
  | (_, d) => uptoBulk d + 1
 end
def uptoSmall : (H : Type) → List (DataW H) → Bool := fun _ ds => decide (uptoBulkAll ds ≤ 1048576)
def OpenSpec.upto (s : _root_.Go.ChangeSpec) : _root_.Go.OpenSpec := { _root_.Go.OpenSpec.ofChange s with cond := some uptoSmall }

/-- 'carillonlaw02.ShaDigests', WHERE WHAT IT READS IS OF BULK AT MOST 1048576: true; the input reads as it did. -/
def shaDigestsUptoRow : OpenClaim := { program := "ytbkchjiiaehhpaa", sum := "21c9ca89a78105cf27b446c9ca2e81518970a2bb149b13fed1a73f95fc044d65", func := "carillon/carillonlaw02.ShaDigests", spec := "shaDigests", plainKeys := false, apart := false, narrowed := true }
def ShaDigestsUptoSaid : Prop := shaDigestsUptoRow.holds Try.pinned (OpenSpec.upto shaDigestsSpec)

/-- 'carillonlaw02.ShaCuts', WHERE WHAT IT READS IS OF BULK AT MOST 1048576: true; the input reads as it did. -/
def shaCutsUptoRow : OpenClaim := { program := "ytbkchjiiaehhpaa", sum := "21c9ca89a78105cf27b446c9ca2e81518970a2bb149b13fed1a73f95fc044d65", func := "carillon/carillonlaw02.ShaCuts", spec := "shaCuts", plainKeys := false, apart := false, narrowed := true }
def ShaCutsUptoSaid : Prop := shaCutsUptoRow.holds Try.pinned (OpenSpec.upto shaCutsSpec)

/-- 'carillonlaw02.ShaRoots', WHERE WHAT IT READS IS OF BULK AT MOST 1048576: true; the input reads as it did. -/
def shaRootsUptoRow : OpenClaim := { program := "ytbkchjiiaehhpaa", sum := "21c9ca89a78105cf27b446c9ca2e81518970a2bb149b13fed1a73f95fc044d65", func := "carillon/carillonlaw02.ShaRoots", spec := "shaRoots", plainKeys := false, apart := false, narrowed := true }
def ShaRootsUptoSaid : Prop := shaRootsUptoRow.holds Try.pinned (OpenSpec.upto shaRootsSpec)

/-- 'carillonlaw02.ShaBlocks', WHERE WHAT IT READS IS OF BULK AT MOST 1048576: true; the input reads as it did. -/
def shaBlocksUptoRow : OpenClaim := { program := "ytbkchjiiaehhpaa", sum := "21c9ca89a78105cf27b446c9ca2e81518970a2bb149b13fed1a73f95fc044d65", func := "carillon/carillonlaw02.ShaBlocks", spec := "shaBlocks", plainKeys := false, apart := false, narrowed := true }
def ShaBlocksUptoSaid : Prop := shaBlocksUptoRow.holds Try.pinned (OpenSpec.upto shaBlocksSpec)

/-- 'carillonlaw02.ShaPlays', WHERE WHAT IT READS IS OF BULK AT MOST 1048576: true; the input reads as it did. -/
def shaPlaysUptoRow : OpenClaim := { program := "ytbkchjiiaehhpaa", sum := "21c9ca89a78105cf27b446c9ca2e81518970a2bb149b13fed1a73f95fc044d65", func := "carillon/carillonlaw02.ShaPlays", spec := "shaPlays", plainKeys := false, apart := false, narrowed := true }
def ShaPlaysUptoSaid : Prop := shaPlaysUptoRow.holds Try.pinned (OpenSpec.upto shaPlaysSpec)

/-- 'carillonlaw34.AuditBegins', WHERE WHAT IT READS IS OF BULK AT MOST 1048576: true; the input reads as it did. -/
def auditBeginsUptoRow : OpenClaim := { program := "ytbkchjiiaehhpaa", sum := "21c9ca89a78105cf27b446c9ca2e81518970a2bb149b13fed1a73f95fc044d65", func := "carillon/carillonlaw34.AuditBegins", spec := "auditBegins", unfollowed := true, recurses := true, plainKeys := false, apart := false, narrowed := true }
def AuditBeginsUptoSaid : Prop := auditBeginsUptoRow.holds Try.pinned (OpenSpec.upto auditBeginsSpec)

/-- 'carillonlaw27.AgreeZero', WHERE WHAT IT READS IS OF BULK AT MOST 1048576: true; the input reads as it did. -/
def agreeZeroUptoRow : OpenClaim := { program := "ytbkchjiiaehhpaa", sum := "21c9ca89a78105cf27b446c9ca2e81518970a2bb149b13fed1a73f95fc044d65", func := "carillon/carillonlaw27.AgreeZero", spec := "agreeZero", plainKeys := false, apart := false, narrowed := true }
def AgreeZeroUptoSaid : Prop := agreeZeroUptoRow.holds Try.pinned (OpenSpec.upto agreeZeroSpec)

/-- 'carillonlaw27.AgreeSame', WHERE WHAT IT READS IS OF BULK AT MOST 1048576: true; the input reads as it did. -/
def agreeSameUptoRow : OpenClaim := { program := "ytbkchjiiaehhpaa", sum := "21c9ca89a78105cf27b446c9ca2e81518970a2bb149b13fed1a73f95fc044d65", func := "carillon/carillonlaw27.AgreeSame", spec := "agreeSame", plainKeys := false, apart := false, narrowed := true }
def AgreeSameUptoSaid : Prop := agreeSameUptoRow.holds Try.pinned (OpenSpec.upto agreeSameSpec)

/-- 'carillonlaw27.AgreeMost', WHERE WHAT IT READS IS OF BULK AT MOST 1048576: true; the input reads as it did. -/
def agreeMostUptoRow : OpenClaim := { program := "ytbkchjiiaehhpaa", sum := "21c9ca89a78105cf27b446c9ca2e81518970a2bb149b13fed1a73f95fc044d65", func := "carillon/carillonlaw27.AgreeMost", spec := "agreeMost", plainKeys := false, apart := false, narrowed := true }
def AgreeMostUptoSaid : Prop := agreeMostUptoRow.holds Try.pinned (OpenSpec.upto agreeMostSpec)

/-- 'carillonlaw34.AuditTaint', WHERE WHAT IT READS IS OF BULK AT MOST 1048576: true; the input reads as it did. -/
def auditTaintUptoRow : OpenClaim := { program := "ytbkchjiiaehhpaa", sum := "21c9ca89a78105cf27b446c9ca2e81518970a2bb149b13fed1a73f95fc044d65", func := "carillon/carillonlaw34.AuditTaint", spec := "auditTaint", unfollowed := true, recurses := true, plainKeys := false, apart := false, narrowed := true }
def AuditTaintUptoSaid : Prop := auditTaintUptoRow.holds Try.pinned (OpenSpec.upto auditTaintSpec)

/-- 'carillonlaw27.AgreePlays', WHERE WHAT IT READS IS OF BULK AT MOST 1048576: true; the input reads as it did. -/
def agreePlaysUptoRow : OpenClaim := { program := "ytbkchjiiaehhpaa", sum := "21c9ca89a78105cf27b446c9ca2e81518970a2bb149b13fed1a73f95fc044d65", func := "carillon/carillonlaw27.AgreePlays", spec := "agreePlays", plainKeys := false, apart := false, narrowed := true }
def AgreePlaysUptoSaid : Prop := agreePlaysUptoRow.holds Try.pinned (OpenSpec.upto agreePlaysSpec)

/-- 'carillonlaw34.AuditClean', WHERE WHAT IT READS IS OF BULK AT MOST 1048576: true; the input reads as it did. -/
def auditCleanUptoRow : OpenClaim := { program := "ytbkchjiiaehhpaa", sum := "21c9ca89a78105cf27b446c9ca2e81518970a2bb149b13fed1a73f95fc044d65", func := "carillon/carillonlaw34.AuditClean", spec := "auditClean", unfollowed := true, recurses := true, plainKeys := false, apart := false, narrowed := true }
def AuditCleanUptoSaid : Prop := auditCleanUptoRow.holds Try.pinned (OpenSpec.upto auditCleanSpec)

end Rows
end Go.Proofs.Ytbkchjiiaehhpaa
