/- Contracts of Go functions that the claims of this seat share. -/
import Derived.Test.YtbkchjiiaehhpaaProg
import Derived.Below
import Derived.Deep.Draws
import Derived.Deep.AppendLies
import Derived.Maps.AppendAt
import Derived.OwnWalk
import Derived.Laws.BytesArg
import Derived.Laws.MakeOwn
import Derived.Laws.OwnMore
import Derived.Deep.OwnRows
import Derived.Tactics
import Derived.Lib.ConvBytes
import Derived.Laws.Slices
import Derived.WalkKit
import Derived.KernelRfl
import Derived.RowKit3
import Derived.Deep.LoopGhost
import Derived.Deep.QuietTactic
import Derived.BigQuiet
import Derived.WideLaws
import Derived.Deep.DeepCutAuto
import Derived.Deep.CutBlock
import Derived.Deep.RegionHeld3
import Derived.Laws.Rows
import Derived.Lib.AppendStr
import Derived.ArgAppend
import Derived.Laws.IdiomCopy
import Derived.OrdersHeld
import Derived.Laws.BitsLemmas
import Derived.RowKit
import Derived.Test.YtbkchjiiaehhpaaWWords
import Derived.Test.YtbkchjiiaehhpaaWLast
import Derived.Test.YtbkchjiiaehhpaaWTab
import Derived.Test.YtbkchjiiaehhpaaWFour
import Derived.Test.YtbkchjiiaehhpaaWQPut
import Derived.Test.YtbkchjiiaehhpaaWApart
import Derived.Test.YtbkchjiiaehhpaaWArr
import Derived.Test.YtbkchjiiaehhpaaWZeros
import Derived.Test.YtbkchjiiaehhpaaWFoot
import Derived.Test.YtbkchjiiaehhpaaWKept
import Derived.Test.YtbkchjiiaehhpaaWShare
import Derived.Test.YtbkchjiiaehhpaaWN
import Derived.Test.YtbkchjiiaehhpaaWFootNe
import Derived.Test.YtbkchjiiaehhpaaWAt
import Derived.Test.YtbkchjiiaehhpaaWEqStruct
import Derived.Test.YtbkchjiiaehhpaaWRepsOne
import Derived.Test.YtbkchjiiaehhpaaWInv
import Derived.Test.YtbkchjiiaehhpaaWInvWords
import Derived.Test.YtbkchjiiaehhpaaWGuard
import Derived.Test.YtbkchjiiaehhpaaWNEv
import Derived.Test.YtbkchjiiaehhpaaWMore
import Derived.Test.YtbkchjiiaehhpaaX0Mem
import Derived.Test.YtbkchjiiaehhpaaX1Pure
import Derived.Test.YtbkchjiiaehhpaaXAgrF
namespace Go.Proofs.Ytbkchjiiaehhpaa.Obj
open Go.RowKit Go.Proofs.YtbkchjiiaehhpaaW.PrintWords Go.Proofs.YtbkchjiiaehhpaaW.PrintLast Go.Proofs.YtbkchjiiaehhpaaW.PrintMore
set_option linter.unusedVariables false
set_option linter.unusedSimpArgs false
open Go.Proofs.Ytbkchjiiaehhpaa.PAgrM
open Go.Maps Go.WideMaps
theorem usual_ok : sched_Check.f 10 3 0 400 1 16 400 400 1 2 8 = some 0 := by decide +kernel
theorem b_cut' {b c : Nat} {w w' : World} (h : Below c w w') (hB : b ≤ c) : Below b w w' := ⟨h.os, h.tape, h.output, h.size, fun i hi => h.block i (by omega)⟩
theorem ag_hear1 (P base bm : Nat) (w : World) (h : AG w base P [3, 0, 400, 1, 16, 400, 400, 1, 2, 8] 0 bm 0 (.map []) (-1) 0) :
    Calls Try.prog 39 #[.pointer (some ⟨P, 0, none⟩), .int .i64 2, .int .i64 1, .int .i64 7] w fun e w' => e = .returned (.int .i64 0) ∧ AG w' base P [3, 0, 400, 1, 16, 400, 400, 1, 2, 8] 0 bm (0 + 1) (DataW.put (.map []) (keyR 2) (encV V1)) (-1) 0 ∧ Below base w w' :=
  (ag_hear P base bm 0 _ 0 0 (-1) _ 2 7 1 NB8 w h (tells_new 2) (by decide) (by decide) (by decide) (by decide) (by decide) (by decide)).mono fun e w' q => ⟨q.1, q.2.1, q.2.2.2⟩
theorem tells_V1 {w : World} {base A bm n : Nat} {c : List Int} {i last v : Int} {D : DataW Unit} (h : AG w base A c i bm n D last v) : Tells (D.put (keyR 2) (encV V1)) 2 V1 := tells_put h.2.2.2.2 2 V1 rfl
theorem ag_votes1 (P base bm n : Nat) (D : DataW Unit) (w : World) (h : AG w base P [3, 0, 400, 1, 16, 400, 400, 1, 2, 8] 0 bm n D (-1) 0) (ht : Tells D 2 V1) :
    Calls Try.prog 41 #[.pointer (some ⟨P, 0, none⟩), .int .i64 2, .int .i64 7] w fun e w' => e = .returned (.int .i64 1) ∧ Below w.heap.size w w' :=
  ag_votes P base bm n _ 0 (-1) 0 D 2 V1 7 w h ht (by decide)
set_option maxHeartbeats 4000000 in
set_option maxRecDepth 100000 in
theorem ag_awake (w : World) : Calls Try.prog 44 #[] w fun e w' => e = .returned (.bool true) ∧ Below w.heap.size w w' := by
  go_enter Try.func44, Try.ntmps44
  go_wp2_with (first
    | (go_at_call 93; (with_reducible refine (ag_usual _).mono ?_); rintro e w1 ⟨rfl, hb⟩; have HB1 := Aside0.mk hb; clear hb)
    | (go_at_call 43; (with_reducible refine (ag_new 3 0 400 1 16 400 400 1 2 8 0 _ usual_ok (by decide) (by decide)).mono ?_); rintro e w2 ⟨P, bm, rfl, hA, hb⟩; have HA2 := Aside0.mk hA; have HB2 := Aside0.mk (below_step HB1.out hb); have HL2 := Aside0.mk HB1.out.size; have HT2 := Aside0.mk (tells_V1 hA); clear hA hb)
    | (go_at_call 39; (with_reducible refine (ag_hear1 P _ bm _ HA2.out).mono ?_); rintro e w3 ⟨rfl, hA, hb⟩; have HA3 := Aside0.mk hA; have HB3 := Aside0.mk (HB2.out.trans (b_cut' hb HL2.out)); clear hA hb)
    | (go_at_call 40; (with_reducible refine (ag_view1 P _ bm _ _ 0 (-1) 0 _ _ HA3.out HT2.out).mono ?_); rintro e w4 ⟨rfl, hb⟩; have HA4 := Aside0.mk (HA3.out.below hb); have HB4 := Aside0.mk (below_step HB3.out hb); clear hb)
    | (go_at_call 41; (with_reducible refine (ag_votes1 P _ bm _ _ _ HA4.out HT2.out).mono ?_); rintro e w5 ⟨rfl, hb⟩; have HB5 := Aside0.mk (below_step HB4.out hb); clear hb))
  go_ret
  exact ⟨rfl, HB5.out⟩
end Go.Proofs.Ytbkchjiiaehhpaa.Obj
