/- Contracts of Go functions that the claims of this seat share. -/
import Derived.Test.YtbkchjiiaehhpaaProg
import Derived.Below
import Derived.Deep.Draws
import Derived.Deep.AppendLies
import Derived.Maps.AppendAt
import Derived.OwnWalk
import Derived.Laws.BytesArg
import Derived.Laws.MakeOwn
import Derived.Laws.OwnMore
import Derived.Deep.OwnRows
import Derived.Tactics
import Derived.Lib.ConvBytes
import Derived.Laws.Slices
import Derived.WalkKit
import Derived.KernelRfl
import Derived.RowKit3
import Derived.Deep.LoopGhost
import Derived.Deep.QuietTactic
import Derived.BigQuiet
import Derived.WideLaws
import Derived.Deep.DeepCutAuto
import Derived.Deep.CutBlock
import Derived.Deep.RegionHeld3
import Derived.Laws.Rows
import Derived.Lib.AppendStr
import Derived.ArgAppend
import Derived.Laws.IdiomCopy
import Derived.OrdersHeld
import Derived.Laws.BitsLemmas
import Derived.RowKit
import Derived.Test.YtbkchjiiaehhpaaWWords
import Derived.Test.YtbkchjiiaehhpaaWLast
import Derived.Test.YtbkchjiiaehhpaaWTab
import Derived.Test.YtbkchjiiaehhpaaWFour
import Derived.Test.YtbkchjiiaehhpaaWQPut
import Derived.Test.YtbkchjiiaehhpaaWApart
import Derived.Test.YtbkchjiiaehhpaaWArr
import Derived.Test.YtbkchjiiaehhpaaWZeros
import Derived.Test.YtbkchjiiaehhpaaWFoot
import Derived.Test.YtbkchjiiaehhpaaWKept
import Derived.Test.YtbkchjiiaehhpaaWShare
import Derived.Test.YtbkchjiiaehhpaaWN
import Derived.Test.YtbkchjiiaehhpaaWFootNe
import Derived.Test.YtbkchjiiaehhpaaWAt
import Derived.Test.YtbkchjiiaehhpaaWEqStruct
import Derived.Test.YtbkchjiiaehhpaaWRepsOne
import Derived.Test.YtbkchjiiaehhpaaWInv
import Derived.Test.YtbkchjiiaehhpaaWInvWords
import Derived.Test.YtbkchjiiaehhpaaWGuard
import Derived.Test.YtbkchjiiaehhpaaWNEv
import Derived.Test.YtbkchjiiaehhpaaWMore
import Derived.Test.YtbkchjiiaehhpaaX0Mem
import Derived.Test.YtbkchjiiaehhpaaX1Pure
import Derived.Test.YtbkchjiiaehhpaaXAgrB
import Derived.Test.YtbkchjiiaehhpaaPAgrMx3
namespace Go.Proofs.Ytbkchjiiaehhpaa.Obj
open Go.RowKit Go.Proofs.YtbkchjiiaehhpaaW.PrintWords Go.Proofs.YtbkchjiiaehhpaaW.PrintLast Go.Proofs.YtbkchjiiaehhpaaW.PrintMore
set_option linter.unusedVariables false
set_option linter.unusedSimpArgs false
open Go.Proofs.Ytbkchjiiaehhpaa.PAgrM
open Go.Maps Go.WideMaps
theorem within_is (a l u : Int) : sched_within.f a l u = some (decide (l ≤ a ∧ a ≤ u)) := by
  unfold sched_within.f
  by_cases h : a ≥ l
  · rw [if_pos h]
    congr 1
    by_cases h2 : a ≤ u
    · rw [decide_eq_true h2, decide_eq_true ⟨h, h2⟩]
    · rw [decide_eq_false h2, decide_eq_false (fun e => h2 e.2)]
  · rw [if_neg h, decide_eq_false (fun e => h e.1)]
theorem j2_is (k : Nat) (b : Bool) (c0 c1 c2 c3 c4 c5 c6 c7 c8 c9 : Int) : ∃ r, sched_Check.j2 (k + 1) b c0 c1 c2 c3 c4 c5 c6 c7 c8 c9 = some r ∧ (r = 0 ∨ r = 1) := by
  rw [sched_Check.j2]
  simp only [within_is, Option.bind_some]
  repeat' split
  all_goals first | exact ⟨_, rfl, .inl rfl⟩ | exact ⟨_, rfl, .inr rfl⟩
theorem j1_is (k : Nat) (b : Bool) (c0 c1 c2 c3 c4 c5 c6 c7 c8 c9 : Int) : ∃ r, sched_Check.j1 (k + 2) b c0 c1 c2 c3 c4 c5 c6 c7 c8 c9 = some r ∧ (r = 0 ∨ r = 1) := by
  rw [sched_Check.j1]
  simp only [within_is, Option.bind_some]
  repeat' split
  all_goals first | exact ⟨_, rfl, .inl rfl⟩ | exact ⟨_, rfl, .inr rfl⟩ | exact j2_is _ _ _ _ _ _ _ _ _ _ _ _
theorem j1_bad (k : Nat) (c0 c1 c2 c3 c4 c5 c6 c7 c8 c9 : Int) : sched_Check.j1 (k + 1) true c0 c1 c2 c3 c4 c5 c6 c7 c8 c9 = some 1 := by
  rw [sched_Check.j1, if_pos rfl]
theorem j0_is (k : Nat) (b : Bool) (c0 c1 c2 c3 c4 c5 c6 c7 c8 c9 : Int) : ∃ r, sched_Check.j0 (k + 3) b c0 c1 c2 c3 c4 c5 c6 c7 c8 c9 = some r ∧ (r = 1 ∨ (r = 0 ∧ b = false ∧ 1 ≤ c3 ∧ c3 ≤ 4)) := by
  rw [sched_Check.j0]
  simp only [within_is, Option.bind_some]
  cases b with
  | true => exact ⟨1, rfl, .inl rfl⟩
  | false =>
    rw [if_neg (by decide)]
    by_cases h1 : 300 ≤ c2 ∧ c2 ≤ 10000
    · rw [decide_eq_true h1, if_pos rfl]
      by_cases h2 : 1 ≤ c3 ∧ c3 ≤ 4
      · rw [decide_eq_true h2, if_pos rfl]
        obtain ⟨r, hr, h⟩ := j1_is k (!decide (wrap64 (c3 + 4) ≤ c4 ∧ c4 ≤ 256)) c0 c1 c2 c3 c4 c5 c6 c7 c8 c9
        refine ⟨r, hr, ?_⟩
        rcases h with h | h
        · exact .inr ⟨h, rfl, h2.1, h2.2⟩
        · exact .inl h
      · rw [decide_eq_false h2, if_neg (by decide)]
        exact ⟨1, j1_bad _ _ _ _ _ _ _ _ _ _ _, .inl rfl⟩
    · rw [decide_eq_false h1, if_neg (by decide)]
      exact ⟨1, j1_bad _ _ _ _ _ _ _ _ _ _ _, .inl rfl⟩
theorem check_is (c0 c1 c2 c3 c4 c5 c6 c7 c8 c9 : Int) : ∃ r, sched_Check.f 10 c0 c1 c2 c3 c4 c5 c6 c7 c8 c9 = some r ∧ (r = 1 ∨ (r = 0 ∧ (1 ≤ c0 ∧ c0 ≤ 8) ∧ (0 ≤ c1 ∧ c1 ≤ 8 ∧ 3 * c1 < c0) ∧ 1 ≤ c3 ∧ c3 ≤ 4)) := by
  unfold sched_Check.f
  simp only [within_is, Option.bind_some]
  split
  · exact ⟨1, rfl, .inl rfl⟩
  · by_cases h1 : 1 ≤ c0 ∧ c0 ≤ 8
    · rw [decide_eq_true h1, if_pos rfl]
      by_cases h2 : 0 ≤ c1 ∧ c1 ≤ 8
      · rw [decide_eq_true h2, if_pos rfl]
        obtain ⟨r, hr, h⟩ := j0_is 7 (decide (wrap64 (3 * c1) ≥ c0)) c0 c1 c2 c3 c4 c5 c6 c7 c8 c9
        refine ⟨r, hr, ?_⟩
        rcases h with h | ⟨ha, hb, hc⟩
        · exact .inl h
        · have hb2 := of_decide_eq_false hb
          have hw : wrap64 (3 * c1) = 3 * c1 := by unfold wrap64; omega
          rw [hw] at hb2
          exact .inr ⟨ha, h1, ⟨h2.1, h2.2, by omega⟩, hc⟩
      · rw [decide_eq_false h2, if_neg (by decide)]
        obtain ⟨r, hr, h⟩ := j0_is 7 (!false) c0 c1 c2 c3 c4 c5 c6 c7 c8 c9
        refine ⟨r, hr, ?_⟩
        rcases h with h | ⟨_, hb, _⟩
        · exact .inl h
        · cases hb
    · rw [decide_eq_false h1, if_neg (by decide)]
      obtain ⟨r, hr, h⟩ := j0_is 7 (!false) c0 c1 c2 c3 c4 c5 c6 c7 c8 c9
      refine ⟨r, hr, ?_⟩
      rcases h with h | ⟨_, hb, _⟩
      · exact .inl h
      · cases hb
end Go.Proofs.Ytbkchjiiaehhpaa.Obj
