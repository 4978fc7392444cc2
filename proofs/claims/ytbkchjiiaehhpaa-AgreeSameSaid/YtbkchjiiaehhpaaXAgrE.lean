/- Contracts of Go functions that the claims of this seat share. -/
import Derived.Test.YtbkchjiiaehhpaaProg
import Derived.Below
import Derived.Deep.Draws
import Derived.Deep.AppendLies
import Derived.Maps.AppendAt
import Derived.OwnWalk
import Derived.Laws.BytesArg
import Derived.Laws.MakeOwn
import Derived.Laws.OwnMore
import Derived.Deep.OwnRows
import Derived.Tactics
import Derived.Lib.ConvBytes
import Derived.Laws.Slices
import Derived.WalkKit
import Derived.KernelRfl
import Derived.RowKit3
import Derived.Deep.LoopGhost
import Derived.Deep.QuietTactic
import Derived.BigQuiet
import Derived.WideLaws
import Derived.Deep.DeepCutAuto
import Derived.Deep.CutBlock
import Derived.Deep.RegionHeld3
import Derived.Laws.Rows
import Derived.Lib.AppendStr
import Derived.ArgAppend
import Derived.Laws.IdiomCopy
import Derived.OrdersHeld
import Derived.Laws.BitsLemmas
import Derived.RowKit
import Derived.Test.YtbkchjiiaehhpaaWWords
import Derived.Test.YtbkchjiiaehhpaaWLast
import Derived.Test.YtbkchjiiaehhpaaWTab
import Derived.Test.YtbkchjiiaehhpaaWFour
import Derived.Test.YtbkchjiiaehhpaaWQPut
import Derived.Test.YtbkchjiiaehhpaaWApart
import Derived.Test.YtbkchjiiaehhpaaWArr
import Derived.Test.YtbkchjiiaehhpaaWZeros
import Derived.Test.YtbkchjiiaehhpaaWFoot
import Derived.Test.YtbkchjiiaehhpaaWKept
import Derived.Test.YtbkchjiiaehhpaaWShare
import Derived.Test.YtbkchjiiaehhpaaWN
import Derived.Test.YtbkchjiiaehhpaaWFootNe
import Derived.Test.YtbkchjiiaehhpaaWAt
import Derived.Test.YtbkchjiiaehhpaaWEqStruct
import Derived.Test.YtbkchjiiaehhpaaWRepsOne
import Derived.Test.YtbkchjiiaehhpaaWInv
import Derived.Test.YtbkchjiiaehhpaaWInvWords
import Derived.Test.YtbkchjiiaehhpaaWGuard
import Derived.Test.YtbkchjiiaehhpaaWNEv
import Derived.Test.YtbkchjiiaehhpaaWMore
import Derived.Test.YtbkchjiiaehhpaaX0Mem
import Derived.Test.YtbkchjiiaehhpaaX1Pure
import Derived.Test.YtbkchjiiaehhpaaXAgrC
import Derived.Test.YtbkchjiiaehhpaaXAgrD
namespace Go.Proofs.Ytbkchjiiaehhpaa.Obj
open Go.RowKit Go.Proofs.YtbkchjiiaehhpaaW.PrintWords Go.Proofs.YtbkchjiiaehhpaaW.PrintLast Go.Proofs.YtbkchjiiaehhpaaW.PrintMore
set_option linter.unusedVariables false
set_option linter.unusedSimpArgs false
open Go.Proofs.Ytbkchjiiaehhpaa.PAgrM
open Go.Maps Go.WideMaps
theorem ag_csize : (Try.prog.info? 60).map (·.size) = some 10 := by kernel_rfl
set_option maxHeartbeats 4000000 in
set_option maxRecDepth 100000 in
theorem ag_new_no (c0 c1 c2 c3 c4 c5 c6 c7 c8 c9 i r : Int) (w : World) (hc : sched_Check.f 10 c0 c1 c2 c3 c4 c5 c6 c7 c8 c9 = some r) (h : r = 1 ∨ (r = 0 ∧ (i < 0 ∨ c0 ≤ i))) :
    Calls Try.prog 43 #[.agg #[.int .i64 c0, .int .i64 c1, .int .i64 c2, .int .i64 c3, .int .i64 c4, .int .i64 c5, .int .i64 c6, .int .i64 c7, .int .i64 c8, .int .i64 c9], .int .i64 i] w fun e w' => e = .returned (.tuple #[.pointer none, .int .i64 1]) ∧ Below w.heap.size w w' := by
  have hu2 := Try.underlying60
  have HC := Aside0.mk hc
  clear hc
  rcases h with rfl | ⟨rfl, h⟩
  · go_enter Try.func43, Try.ntmps43
    go_wp2_with (first
      | ((with_reducible refine gate_dst (N := 6) rfl ?_); refine wpList_load_row rfl 60 (.tmp 2) rfl w.heap.size rfl 60 #[.int .i64 c0, .int .i64 c1, .int .i64 c2, .int .i64 c3, .int .i64 c4, .int .i64 c5, .int .i64 c6, .int .i64 c7, .int .i64 c8, .int .i64 c9] (0, 0) _ (heap_alloc_new _ _) Try.underlying60 rfl ag_csize ?_; simp only [Act.put, List.setIfInBounds_toArray, List.set_cons_zero, List.set_cons_succ])
      | (go_at_call 92; (with_reducible refine (sched_Check.calls 10 c0 c1 c2 c3 c4 c5 c6 c7 c8 c9 1 _ HC.out).mono ?_); rintro e w1 ⟨rfl, hb⟩; have HB1 := Aside0.mk (below_step ((Below.refl _ w).alloc (Nat.le_refl _) _) hb); clear hb))
    go_ret2
    exact ⟨rfl, HB1.out⟩
  · rcases h with h | h
    · go_enter Try.func43, Try.ntmps43
      go_wp2_with (first
        | ((with_reducible refine gate_dst (N := 6) rfl ?_); refine wpList_load_row rfl 60 (.tmp 2) rfl w.heap.size rfl 60 #[.int .i64 c0, .int .i64 c1, .int .i64 c2, .int .i64 c3, .int .i64 c4, .int .i64 c5, .int .i64 c6, .int .i64 c7, .int .i64 c8, .int .i64 c9] (0, 0) _ (heap_alloc_new _ _) Try.underlying60 rfl ag_csize ?_; simp only [Act.put, List.setIfInBounds_toArray, List.set_cons_zero, List.set_cons_succ])
        | (go_at_call 92; (with_reducible refine (sched_Check.calls 10 c0 c1 c2 c3 c4 c5 c6 c7 c8 c9 0 _ HC.out).mono ?_); rintro e w1 ⟨rfl, hb⟩; have HB1 := Aside0.mk (below_step ((Below.refl _ w).alloc (Nat.le_refl _) _) hb); clear hb))
      go_ret2
      exact ⟨rfl, HB1.out⟩
    · by_cases h0 : i < 0
      · go_enter Try.func43, Try.ntmps43
        go_wp2_with (first
          | ((with_reducible refine gate_dst (N := 6) rfl ?_); refine wpList_load_row rfl 60 (.tmp 2) rfl w.heap.size rfl 60 #[.int .i64 c0, .int .i64 c1, .int .i64 c2, .int .i64 c3, .int .i64 c4, .int .i64 c5, .int .i64 c6, .int .i64 c7, .int .i64 c8, .int .i64 c9] (0, 0) _ (heap_alloc_new _ _) Try.underlying60 rfl ag_csize ?_; simp only [Act.put, List.setIfInBounds_toArray, List.set_cons_zero, List.set_cons_succ])
          | (go_at_call 92; (with_reducible refine (sched_Check.calls 10 c0 c1 c2 c3 c4 c5 c6 c7 c8 c9 0 _ HC.out).mono ?_); rintro e w1 ⟨rfl, hb⟩; have HB1 := Aside0.mk (below_step ((Below.refl _ w).alloc (Nat.le_refl _) _) hb); clear hb))
        go_ret2
        exact ⟨rfl, HB1.out⟩
      · go_enter Try.func43, Try.ntmps43
        go_wp2_with (first
          | ((with_reducible refine gate_dst (N := 6) rfl ?_); refine wpList_load_row rfl 60 (.tmp 2) rfl w.heap.size rfl 60 #[.int .i64 c0, .int .i64 c1, .int .i64 c2, .int .i64 c3, .int .i64 c4, .int .i64 c5, .int .i64 c6, .int .i64 c7, .int .i64 c8, .int .i64 c9] (0, 0) _ (heap_alloc_new _ _) Try.underlying60 rfl ag_csize ?_; simp only [Act.put, List.setIfInBounds_toArray, List.set_cons_zero, List.set_cons_succ])
          | (go_at_call 92; (with_reducible refine (sched_Check.calls 10 c0 c1 c2 c3 c4 c5 c6 c7 c8 c9 0 _ HC.out).mono ?_); rintro e w1 ⟨rfl, hb⟩; have HB1 := Aside0.mk (below_step ((Below.refl _ w).alloc (Nat.le_refl _) _) hb); have z0 := (blk_cell (blk_below (heap_alloc_new w _) hb) 0).trans rfl; clear hb))
        go_ret2
        exact ⟨rfl, HB1.out⟩
set_option maxHeartbeats 4000000 in
set_option maxRecDepth 100000 in
theorem ag_new (c0 c1 c2 c3 c4 c5 c6 c7 c8 c9 i : Int) (w : World) (hc : sched_Check.f 10 c0 c1 c2 c3 c4 c5 c6 c7 c8 c9 = some 0) (h0 : 0 ≤ i) (h1 : i < c0) :
    Calls Try.prog 43 #[.agg #[.int .i64 c0, .int .i64 c1, .int .i64 c2, .int .i64 c3, .int .i64 c4, .int .i64 c5, .int .i64 c6, .int .i64 c7, .int .i64 c8, .int .i64 c9], .int .i64 i] w fun e w' => ∃ A bm, e = .returned (.tuple #[.pointer (some ⟨A, 0, none⟩), .int .i64 0]) ∧ AG w' w.heap.size A [c0, c1, c2, c3, c4, c5, c6, c7, c8, c9] i bm 0 (.map []) (-1) 0 ∧ Below w.heap.size w w' := by
  have hu2 := Try.underlying60
  have hmm := @run_makeMap Try.prog
  have HC := Aside0.mk hc
  have i1 : ¬ i < 0 := by omega
  have i2 : ¬ c0 ≤ i := by omega
  clear hc
  go_enter Try.func43, Try.ntmps43
  go_wp2_with (first
    | ((with_reducible refine gate_dst (N := 6) rfl ?_); refine wpList_load_row rfl 60 (.tmp 2) rfl w.heap.size rfl 60 #[.int .i64 c0, .int .i64 c1, .int .i64 c2, .int .i64 c3, .int .i64 c4, .int .i64 c5, .int .i64 c6, .int .i64 c7, .int .i64 c8, .int .i64 c9] (0, 0) _ (heap_alloc_new _ _) Try.underlying60 rfl ag_csize ?_; simp only [Act.put, List.setIfInBounds_toArray, List.set_cons_zero, List.set_cons_succ])
    | (go_at_call 92; (with_reducible refine (sched_Check.calls 10 c0 c1 c2 c3 c4 c5 c6 c7 c8 c9 0 _ HC.out).mono ?_); rintro e w1 ⟨rfl, hb⟩; have HB1 := Aside0.mk (below_step ((Below.refl _ w).alloc (Nat.le_refl _) _) hb); have Z1 := Aside0.mk (blk_below (heap_alloc_new w _) hb); have z0 := (blk_cell Z1.out 0).trans rfl; clear hb)
    | ((with_reducible refine gate_dst (N := 19) rfl ?_); refine wpList_load_row rfl 60 (.tmp 2) rfl w.heap.size rfl 60 #[.int .i64 c0, .int .i64 c1, .int .i64 c2, .int .i64 c3, .int .i64 c4, .int .i64 c5, .int .i64 c6, .int .i64 c7, .int .i64 c8, .int .i64 c9] (0, 0) _ (Z1.out) Try.underlying60 rfl ag_csize ?_; simp only [Act.put, List.setIfInBounds_toArray, List.set_cons_zero, List.set_cons_succ]))
  go_ret2
  have e1 : (w1.alloc (.map #[] 0)).heap.size = w1.heap.size + 1 := World.size_alloc _ _
  refine ⟨w1.heap.size + 1, w1.heap.size, rfl, ⟨by have := HB1.out.size; omega, HB1.out.size, rfl, ?_, World.ownsMap.alloc (World.ownsMap_made w1 Try.prog 3 R8) _⟩, ?_⟩
  · have q := heap_alloc_new (w1.alloc (.map #[] 0)) (.cells (nums .i64 [c0, c1, c2, c3, c4, c5, c6, c7, c8, c9] ++ [Value.int .i64 i, Value.map (some w1.heap.size), Value.int .i64 0, Value.int .i64 (-1), Value.int .i64 0]).toArray 63 (0, 0))
    rw [e1] at q
    exact q
  · exact (HB1.out.alloc HB1.out.size _).alloc (HB1.out.alloc HB1.out.size _).size _
theorem tells_new (r : Int) : Tells (.map []) r NB8 := ⟨rfl, .inr ⟨rfl, rfl⟩⟩
end Go.Proofs.Ytbkchjiiaehhpaa.Obj
