/- Contracts of Go functions that the claims of this seat share. -/
import Derived.Test.YtaoiamifofkklaaProg
import Derived.Below
import Derived.Deep.Draws
import Derived.Deep.AppendLies
import Derived.Maps.AppendAt
import Derived.OwnWalk
import Derived.Laws.BytesArg
import Derived.Laws.MakeOwn
import Derived.Laws.OwnMore
import Derived.Deep.OwnRows
import Derived.Tactics
import Derived.Lib.ConvBytes
import Derived.Laws.Slices
import Derived.WalkKit
import Derived.KernelRfl
import Derived.RowKit3
import Derived.Deep.LoopGhost
import Derived.Deep.QuietTactic
import Derived.BigQuiet
import Derived.WideLaws
import Derived.Deep.DeepCutAuto
import Derived.Deep.CutBlock
import Derived.Deep.RegionHeld3
import Derived.Laws.Rows
import Derived.Lib.AppendStr
import Derived.ArgAppend
import Derived.Laws.IdiomCopy
import Derived.OrdersHeld
import Derived.Laws.BitsLemmas
import Derived.RowKit
import Derived.Lib.OthersKept
import Derived.Test.YtaoiamifofkklaaWWords
import Derived.Test.YtaoiamifofkklaaWLast
import Derived.Test.YtaoiamifofkklaaWTab
import Derived.Test.YtaoiamifofkklaaWFour
import Derived.Test.YtaoiamifofkklaaWQPut
import Derived.Test.YtaoiamifofkklaaWApart
import Derived.Test.YtaoiamifofkklaaWArr
import Derived.Test.YtaoiamifofkklaaWZeros
import Derived.Test.YtaoiamifofkklaaWFoot
import Derived.Test.YtaoiamifofkklaaWKept
import Derived.Test.YtaoiamifofkklaaWShare
import Derived.Test.YtaoiamifofkklaaWN
import Derived.Test.YtaoiamifofkklaaWFootNe
import Derived.Test.YtaoiamifofkklaaWAt
import Derived.Test.YtaoiamifofkklaaWEqStruct
import Derived.Test.YtaoiamifofkklaaWRepsOne
import Derived.Test.YtaoiamifofkklaaWInv
import Derived.Test.YtaoiamifofkklaaWInvWords
import Derived.Test.YtaoiamifofkklaaWGuard
import Derived.Test.YtaoiamifofkklaaWNEv
import Derived.Test.YtaoiamifofkklaaWMore
import Derived.Test.YtaoiamifofkklaaX0Mem
import Derived.Test.YtaoiamifofkklaaX1Pure
import Derived.Test.YtaoiamifofkklaaXShaI
namespace Go.Proofs.Ytaoiamifofkklaa.Obj
open Go.RowKit Go.Proofs.YtaoiamifofkklaaW.PrintWords Go.Proofs.YtaoiamifofkklaaW.PrintLast Go.Proofs.YtaoiamifofkklaaW.PrintMore
set_option linter.unusedVariables false
set_option linter.unusedSimpArgs false
open Go.Proofs.Ytaoiamifofkklaa.PShaH
theorem foldN_add (a : Nat) : ∀ (b : Nat) (l : List Int) (s : W8), foldN (a + b) l s = foldN b (l.drop (64 * a)) (foldN a l s)
  | 0, l, s => by rw [foldN_zero]; rfl
  | b + 1, l, s => by
    rw [← Nat.add_assoc, foldN_succ, foldN_succ, foldN_add a b, List.drop_drop, show 64 * (a + b) = 64 * a + 64 * b by omega]
theorem foldN_front (k : Nat) (l m : List Int) (h : 64 * k ≤ l.length) : ∀ (j : Nat) (s : W8), j ≤ k → foldN j (l.take (64 * k) ++ m) s = foldN j l s
  | 0, s, _ => by rw [foldN_zero, foldN_zero]
  | j + 1, s, hj => by
    rw [foldN_succ, foldN_succ, foldN_front k l m h j s (by omega)]
    congr 1
    have hl : (l.take (64 * k)).length = 64 * k := by rw [List.length_take]; omega
    rw [List.drop_append_of_le_length (by omega), List.take_append_of_le_length (by rw [List.length_drop]; omega), List.drop_take, List.take_take, Nat.min_eq_left (by omega)]
theorem tailL_len (l : List Int) : (tailL l).length = l.length % 64 := by unfold tailL; rw [List.length_drop]; omega
theorem padL_tail (l : List Int) : padL l = l.take (64 * (l.length / 64)) ++ padL (tailL l) := by
  have h1 : padK (tailL l).length = padK l.length := by rw [tailL_len]; unfold padK; omega
  unfold padL
  rw [h1]
  have h2 : l = l.take (64 * (l.length / 64)) ++ tailL l := (List.take_append_drop _ _).symm
  rw [← List.append_assoc, ← List.append_assoc]
  rw [← h2]
theorem endL_len (l : List Int) : (endL l).length % 64 = 0 := by
  unfold endL
  rw [List.length_append, padL_len, bytesBE_len]
  have h1 := (padK_at (tailL l).length).1
  omega
theorem dig_same (l : List Int) : digR l = digP l := by
  have ha : allL l = l.take (64 * (l.length / 64)) ++ endL l := by
    unfold allL endL
    rw [padL_tail, List.append_assoc]
  have hk : 64 * (l.length / 64) ≤ l.length := by omega
  have hlen : (allL l).length / 64 = l.length / 64 + (endL l).length / 64 := by
    rw [ha, List.length_append, List.length_take, Nat.min_eq_left hk]
    omega
  have hd : (l.take (64 * (l.length / 64)) ++ endL l).drop (64 * (l.length / 64)) = endL l := List.drop_left' (by rw [List.length_take]; omega)
  have hf : foldN ((allL l).length / 64) (allL l) IV = foldN ((endL l).length / 64) (endL l) (foldN (l.length / 64) l IV) := by
    rw [hlen, foldN_add, ha, foldN_front _ _ _ hk _ _ (Nat.le_refl _), hd]
  unfold digR digP
  rw [hf]
end Go.Proofs.Ytaoiamifofkklaa.Obj
