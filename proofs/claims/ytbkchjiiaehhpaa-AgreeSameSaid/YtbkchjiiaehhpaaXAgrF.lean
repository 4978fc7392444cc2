/- Contracts of Go functions that the claims of this seat share. -/
import Derived.Test.YtbkchjiiaehhpaaProg
import Derived.Below
import Derived.Deep.Draws
import Derived.Deep.AppendLies
import Derived.Maps.AppendAt
import Derived.OwnWalk
import Derived.Laws.BytesArg
import Derived.Laws.MakeOwn
import Derived.Laws.OwnMore
import Derived.Deep.OwnRows
import Derived.Tactics
import Derived.Lib.ConvBytes
import Derived.Laws.Slices
import Derived.WalkKit
import Derived.KernelRfl
import Derived.RowKit3
import Derived.Deep.LoopGhost
import Derived.Deep.QuietTactic
import Derived.BigQuiet
import Derived.WideLaws
import Derived.Deep.DeepCutAuto
import Derived.Deep.CutBlock
import Derived.Deep.RegionHeld3
import Derived.Laws.Rows
import Derived.Lib.AppendStr
import Derived.ArgAppend
import Derived.Laws.IdiomCopy
import Derived.OrdersHeld
import Derived.Laws.BitsLemmas
import Derived.RowKit
import Derived.Test.YtbkchjiiaehhpaaWWords
import Derived.Test.YtbkchjiiaehhpaaWLast
import Derived.Test.YtbkchjiiaehhpaaWTab
import Derived.Test.YtbkchjiiaehhpaaWFour
import Derived.Test.YtbkchjiiaehhpaaWQPut
import Derived.Test.YtbkchjiiaehhpaaWApart
import Derived.Test.YtbkchjiiaehhpaaWArr
import Derived.Test.YtbkchjiiaehhpaaWZeros
import Derived.Test.YtbkchjiiaehhpaaWFoot
import Derived.Test.YtbkchjiiaehhpaaWKept
import Derived.Test.YtbkchjiiaehhpaaWShare
import Derived.Test.YtbkchjiiaehhpaaWN
import Derived.Test.YtbkchjiiaehhpaaWFootNe
import Derived.Test.YtbkchjiiaehhpaaWAt
import Derived.Test.YtbkchjiiaehhpaaWEqStruct
import Derived.Test.YtbkchjiiaehhpaaWRepsOne
import Derived.Test.YtbkchjiiaehhpaaWInv
import Derived.Test.YtbkchjiiaehhpaaWInvWords
import Derived.Test.YtbkchjiiaehhpaaWGuard
import Derived.Test.YtbkchjiiaehhpaaWNEv
import Derived.Test.YtbkchjiiaehhpaaWMore
import Derived.Test.YtbkchjiiaehhpaaX0Mem
import Derived.Test.YtbkchjiiaehhpaaX1Pure
import Derived.Test.YtbkchjiiaehhpaaXAgrE
import Derived.Test.YtbkchjiiaehhpaaPAgrMx4
namespace Go.Proofs.Ytbkchjiiaehhpaa.Obj
open Go.RowKit Go.Proofs.YtbkchjiiaehhpaaW.PrintWords Go.Proofs.YtbkchjiiaehhpaaW.PrintLast Go.Proofs.YtbkchjiiaehhpaaW.PrintMore
set_option linter.unusedVariables false
set_option linter.unusedSimpArgs false
open Go.Proofs.Ytbkchjiiaehhpaa.PAgrM
open Go.Maps Go.WideMaps
set_option maxHeartbeats 4000000 in
set_option maxRecDepth 100000 in
theorem ag_commit_old (A base bm n : Nat) (c : List Int) (i v last : Int) (D : DataW Unit) (q : Int) (w : World) (h : AG w base A c i bm n D last v) (hq : 0 ≤ q ∧ q < 1048576) (hlast : q ≤ last) :
    Calls Try.prog 37 #[.pointer (some ⟨A, 0, none⟩), .int .i64 q] w fun e w' => e = .returned (.tuple #[.int .i64 0, .bool false, .int .i64 10]) ∧ w' = w := by
  have hu := Try.underlying63
  obtain ⟨c0, c1, c2, c3, c4, c5, c6, c7, c8, c9, rfl, g0, g1, g3, g10, g11, g12, g13, g14⟩ := ag_cells h
  have k1 : 0 ≤ q := hq.1
  have k2 : q < 1048576 := hq.2
  clear h hq
  go_enter Try.func37, Try.ntmps37
  go_wp2_with (first
    | (go_at_call 87; (with_reducible refine (ag_none A bm _ g11).mono ?_); rintro e w ⟨rfl, rfl⟩)
    | (go_at_call 88; (with_reducible refine (ag_isRound q _ k1 k2).mono ?_); rintro e w ⟨rfl, rfl⟩))
  go_ret3
  exact ⟨rfl, rfl⟩
def V1 : List Int := [-1, 7, -1, -1, -1, -1, -1, -1]
theorem V1_at (k : Nat) (hk : k < 8) (h1 : k ≠ 1) : V1.getD k 0 = -1 := by
  match k, hk, h1 with
  | 0, _, _ => rfl
  | 2, _, _ => rfl
  | 3, _, _ => rfl
  | 4, _, _ => rfl
  | 5, _, _ => rfl
  | 6, _, _ => rfl
  | 7, _, _ => rfl
theorem with_01 : view_With.f 9 0 1 = some (2, 0) := by decide +kernel
set_option maxHeartbeats 4000000 in
set_option maxRecDepth 100000 in
theorem ag_heard1 (w : World) : Calls Try.prog 91 #[vA V1] w fun e w' => e = .returned (.int .i64 2) ∧ Below w.heap.size w w' := by
  have I0 := ag_size
  obtain ⟨vt, hvt⟩ : ∃ vt, V1 = vt := ⟨_, rfl⟩
  have HL : Aside0 (vt.length = 8) := ⟨by rw [← hvt]; rfl⟩
  have HV := Aside0.mk hvt
  rw [hvt]
  clear hvt
  have hsz := vA_size HL.out
  unfold vA
  go_enter Try.func91, Try.ntmps91
  go_wp2_with ((with_reducible refine gate_dst (N := 6) rfl ?_); refine wpList_load_row rfl 137 (.tmp 1) rfl w.heap.size rfl 137 (nums .i64 vt).toArray (0, 0) _ (heap_alloc_new _ _) Try.underlying137 rfl (by rw [vA_size HL.out]; exact ag_size) ?_; simp only [Act.put, List.setIfInBounds_toArray, List.set_cons_zero, List.set_cons_succ])
  go_loopw [3, 7] (fun v3 v7 wr => ∃ k : Nat, k ≤ 8 ∧ v7 = .int .i64 k ∧ v3 = .int .i64 (if k ≤ 1 then 0 else 2) ∧ Aside0 (Below w.heap.size w wr)) (fun _ v7 _ => 8 - (intOf v7).toNat)
  case atStart => exact ⟨0, by decide, rfl, rfl, ⟨(Below.refl _ w).alloc (Nat.le_refl _) _⟩⟩
  case round =>
    obtain ⟨k, hk, rfl, rfl, HB⟩ := hrel
    by_cases hlt : k < 8
    · have hix := fun w => ag_index w vt HL.out k hlt
      have j1 : (k : Int) < 8 := by omega
      by_cases h1 : k = 1
      · have e1 : vt.getD k 0 = 7 := by rw [h1, ← HV.out]; rfl
        have kk : (k : Int) = 1 := by omega
        simp only [e1] at hix
        rw [if_pos (by omega)]
        have hw : view_With.f 9 0 (k : Int) = some (2, 0) := by rw [kk]; exact with_01
        clear kk
        have H1 := Aside0.mk h1
        clear h1
        go_wp2_with (go_at_call 112; (with_reducible refine (view_With.calls 9 0 (k : Int) 2 0 _ hw).mono ?_); rintro e w2 ⟨rfl, hb⟩; have HB2 := Aside0.mk (below_step HB.out hb); clear hb)
        refine ⟨⟨k + 1, hlt, by simp, ?_, HB2⟩, ?_⟩
        · rw [if_neg (by have := H1.out; omega)]
        · simp [intOf]
          omega
      · have e1 : vt.getD k 0 = -1 := by rw [← HV.out]; exact V1_at k hlt h1
        simp only [e1] at hix
        go_wp2
        refine ⟨⟨k + 1, hlt, by simp, ?_, HB⟩, ?_⟩
        · by_cases h2 : k ≤ 1
          · rw [if_pos h2, if_pos (by omega)]
          · rw [if_neg h2, if_neg (by omega)]
        · simp [intOf]
          omega
    · obtain rfl : k = 8 := by omega
      rw [if_neg (by decide)]
      go_wp2
      go_ret
      exact ⟨rfl, HB.out⟩
theorem ag_heardA (w : World) : Calls Try.prog 91 #[.agg (nums .i64 V1).toArray] w fun e w' => e = .returned (.int .i64 2) ∧ Below w.heap.size w w' := ag_heard1 w
set_option maxHeartbeats 4000000 in
set_option maxRecDepth 100000 in
theorem ag_view1 (A base bm n : Nat) (c : List Int) (i last v : Int) (D : DataW Unit) (w : World) (h : AG w base A c i bm n D last v) (ht : Tells D 2 V1) :
    Calls Try.prog 40 #[.pointer (some ⟨A, 0, none⟩), .int .i64 2] w fun e w' => e = .returned (.int .i64 2) ∧ Below w.heap.size w w' := by
  obtain ⟨c0, c1, c2, c3, c4, c5, c6, c7, c8, c9, _, g0, g1, g3, g10, g11, g12, g13, g14⟩ := ag_cells h
  have H := Aside0.mk h
  have HT := Aside0.mk ht
  clear h ht
  go_enter Try.func40, Try.ntmps40
  go_wp2_with (first
    | (go_at_call 87; (with_reducible refine (ag_none A bm _ g11).mono ?_); rintro e w ⟨rfl, rfl⟩)
    | (go_at_call 89; (with_reducible refine (ag_of A base bm n c i last v D 2 V1 _ H.out HT.out (by decide)).mono ?_); rintro e w1 ⟨rfl, hb⟩; have HB1 := Aside0.mk hb; clear hb)
    | (go_at_call 91; (with_reducible refine (ag_heard1 _).mono ?_); rintro e w2 ⟨rfl, hb⟩; have HB2 := Aside0.mk (below_step HB1.out hb); clear hb))
  go_ret
  exact ⟨rfl, HB2.out⟩
set_option maxHeartbeats 4000000 in
set_option maxRecDepth 100000 in
theorem ag_usual (w : World) : Calls Try.prog 93 #[] w fun e w' => e = .returned (.agg #[.int .i64 3, .int .i64 0, .int .i64 400, .int .i64 1, .int .i64 16, .int .i64 400, .int .i64 400, .int .i64 1, .int .i64 2, .int .i64 8]) ∧ Below w.heap.size w w' := by
  have hu2 := Try.underlying60
  go_enter Try.func93, Try.ntmps93
  go_wp2
  refine bodyPost_ret (v := .agg #[.int .i64 3, .int .i64 0, .int .i64 400, .int .i64 1, .int .i64 16, .int .i64 400, .int .i64 400, .int .i64 1, .int .i64 2, .int .i64 8]) (results_cell_row rfl _ _ w.heap.size _ #[.int .i64 3, .int .i64 0, .int .i64 400, .int .i64 1, .int .i64 16, .int .i64 400, .int .i64 400, .int .i64 1, .int .i64 2, .int .i64 8] (0, 0) _ rfl (heap_alloc_new _ _) hu2 rfl ag_csize) rfl ⟨rfl, ?_⟩
  exact (Below.refl _ _).alloc (Nat.le_refl _) _
end Go.Proofs.Ytbkchjiiaehhpaa.Obj
