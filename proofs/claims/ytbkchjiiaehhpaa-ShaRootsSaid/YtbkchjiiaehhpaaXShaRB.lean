/- Contracts of Go functions that the claims of this seat share. -/
import Derived.Test.YtbkchjiiaehhpaaProg
import Derived.Below
import Derived.Deep.Draws
import Derived.Deep.AppendLies
import Derived.Maps.AppendAt
import Derived.OwnWalk
import Derived.Laws.BytesArg
import Derived.Laws.MakeOwn
import Derived.Laws.OwnMore
import Derived.Deep.OwnRows
import Derived.Tactics
import Derived.Lib.ConvBytes
import Derived.Laws.Slices
import Derived.WalkKit
import Derived.KernelRfl
import Derived.RowKit3
import Derived.Deep.LoopGhost
import Derived.Deep.QuietTactic
import Derived.BigQuiet
import Derived.WideLaws
import Derived.Deep.DeepCutAuto
import Derived.Deep.CutBlock
import Derived.Deep.RegionHeld3
import Derived.Laws.Rows
import Derived.Lib.AppendStr
import Derived.ArgAppend
import Derived.Laws.IdiomCopy
import Derived.OrdersHeld
import Derived.Laws.BitsLemmas
import Derived.RowKit
import Derived.Test.YtbkchjiiaehhpaaWWords
import Derived.Test.YtbkchjiiaehhpaaWLast
import Derived.Test.YtbkchjiiaehhpaaWTab
import Derived.Test.YtbkchjiiaehhpaaWFour
import Derived.Test.YtbkchjiiaehhpaaWQPut
import Derived.Test.YtbkchjiiaehhpaaWApart
import Derived.Test.YtbkchjiiaehhpaaWArr
import Derived.Test.YtbkchjiiaehhpaaWZeros
import Derived.Test.YtbkchjiiaehhpaaWFoot
import Derived.Test.YtbkchjiiaehhpaaWKept
import Derived.Test.YtbkchjiiaehhpaaWShare
import Derived.Test.YtbkchjiiaehhpaaWN
import Derived.Test.YtbkchjiiaehhpaaWFootNe
import Derived.Test.YtbkchjiiaehhpaaWAt
import Derived.Test.YtbkchjiiaehhpaaWEqStruct
import Derived.Test.YtbkchjiiaehhpaaWRepsOne
import Derived.Test.YtbkchjiiaehhpaaWInv
import Derived.Test.YtbkchjiiaehhpaaWInvWords
import Derived.Test.YtbkchjiiaehhpaaWGuard
import Derived.Test.YtbkchjiiaehhpaaWNEv
import Derived.Test.YtbkchjiiaehhpaaWMore
import Derived.Test.YtbkchjiiaehhpaaX0Mem
import Derived.Test.YtbkchjiiaehhpaaX1Pure
import Derived.Test.YtbkchjiiaehhpaaXShaRA1
import Derived.Test.YtbkchjiiaehhpaaXShaRA2
namespace Go.Proofs.Ytbkchjiiaehhpaa.Obj
open Go.RowKit Go.Proofs.YtbkchjiiaehhpaaW.PrintWords Go.Proofs.YtbkchjiiaehhpaaW.PrintLast Go.Proofs.YtbkchjiiaehhpaaW.PrintMore
set_option linter.unusedVariables false
set_option linter.unusedSimpArgs false
open Go.Proofs.Ytbkchjiiaehhpaa.PShaR
theorem roots_all : PRI.map rootK = KTI.map some := by
  have e1 : PRI = (PRI.drop 0).take 16 ++ ((PRI.drop 16).take 16 ++ ((PRI.drop 32).take 16 ++ (PRI.drop 48).take 16)) := by decide
  have e2 : KTI = (KTI.drop 0).take 16 ++ ((KTI.drop 16).take 16 ++ ((KTI.drop 32).take 16 ++ (KTI.drop 48).take 16)) := by decide
  rw [e1, e2, List.map_append, List.map_append, List.map_append, List.map_append, List.map_append, List.map_append, roots_0, roots_1, roots_2, roots_3]
theorem KTI_len : KTI.length = 64 := by decide
theorem PRI_len : PRI.length = 64 := by decide
theorem root_at (k i : Nat) (hk : 200 ≤ k) (hi : i < 64) : ∃ t, carillonref02_root.f k (rd PRI (i : Int)) true = some t ∧ t % 4294967296 = KTI.getD i 0 := by
  have h := congrArg (fun l : List (Option Int) => l[i]?) roots_all
  simp only [List.getElem?_map] at h
  have h1 : PRI[i]? = some (rd PRI (i : Int)) := by
    unfold rd
    rw [Int.toNat_natCast, List.getD_eq_getElem?_getD, List.getElem?_eq_getElem (show i < PRI.length by rw [PRI_len]; exact hi)]
    rfl
  have h2 : KTI[i]? = some (KTI.getD i 0) := by
    rw [List.getD_eq_getElem?_getD, List.getElem?_eq_getElem (show i < KTI.length by rw [KTI_len]; exact hi)]
    rfl
  rw [h1, h2] at h
  have h3 : rootK (rd PRI (i : Int)) = some (KTI.getD i 0) := by simpa using h
  unfold rootK at h3
  obtain ⟨t, ht, he⟩ := Option.map_eq_some_iff.1 h3
  exact ⟨t, at_rounds (g := fun k => carillonref02_root.f k (rd PRI (i : Int)) true) (fun k => carillonref02_root.mono _ _ k) hk ht, he⟩
theorem rounds_l0 : ∀ n i : Nat, i + n = 64 → carillonref02_Rounds.l0 (300 + n) PRI (KTI.take i) (i : Int) = some KTI
  | 0, i, h => by
    obtain rfl : i = 64 := by omega
    rw [show (300 + 0 : Nat) = 299 + 1 by rfl, carillonref02_Rounds.l0, if_neg (by decide), List.take_of_length_le (by rw [KTI_len]; exact Nat.le_refl _)]
  | n + 1, i, h => by
    obtain ⟨t, ht, he⟩ := root_at (300 + n) i (by omega) (by omega)
    have hl : (KTI.take i).length = i := by rw [List.length_take, KTI_len]; omega
    have hw : wrap64 ((i : Int) + 1) = ((i + 1 : Nat) : Int) := by
      have : ((i + 1 : Nat) : Int) = (i : Int) + 1 := by omega
      rw [this]
      unfold wrap64; omega
    rw [show 300 + (n + 1) = (300 + n) + 1 by omega, carillonref02_Rounds.l0, if_pos (by omega), if_pos (by omega), if_pos (by rw [PRI_len]; omega), ht]
    show (if (KTI.take i).length < 35184372088832 then carillonref02_Rounds.l0 (300 + n) PRI (KTI.take i ++ [t % 4294967296]) (wrap64 ((i : Int) + 1)) else none) = _
    rw [if_pos (by rw [hl]; omega), he, hw]
    have e : KTI.take i ++ [KTI.getD i 0] = KTI.take (i + 1) := by
      rw [List.getD_eq_getElem?_getD, List.getElem?_eq_getElem (show i < KTI.length by rw [KTI_len]; omega)]
      exact (List.take_succ_eq_append_getElem (show i < KTI.length by rw [KTI_len]; omega)).symm
    rw [e]
    exact rounds_l0 n (i + 1) (by omega)
theorem rounds_all : carillonref02_Rounds.l0 16000 PRI [] 0 = some KTI := by
  have q := rounds_l0 64 0 rfl
  rw [List.take_zero, show (300 + 64 : Nat) = 364 by rfl, show ((0 : Nat) : Int) = 0 by rfl] at q
  exact at_rounds (g := fun k => carillonref02_Rounds.l0 k PRI [] 0) (fun k => carillonref02_Rounds.mono_l k _ _ _) (show 364 ≤ 16000 by decide) q
theorem rounds_is : carillonref02_Rounds.f 16000 = some KTI := by
  unfold carillonref02_Rounds.f
  rw [primes_is, Option.bind_some]
  exact rounds_all
end Go.Proofs.Ytbkchjiiaehhpaa.Obj
