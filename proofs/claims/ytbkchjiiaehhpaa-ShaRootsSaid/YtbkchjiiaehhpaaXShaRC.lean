/- Contracts of Go functions that the claims of this seat share. -/
import Derived.Test.YtbkchjiiaehhpaaProg
import Derived.Below
import Derived.Deep.Draws
import Derived.Deep.AppendLies
import Derived.Maps.AppendAt
import Derived.OwnWalk
import Derived.Laws.BytesArg
import Derived.Laws.MakeOwn
import Derived.Laws.OwnMore
import Derived.Deep.OwnRows
import Derived.Tactics
import Derived.Lib.ConvBytes
import Derived.Laws.Slices
import Derived.WalkKit
import Derived.KernelRfl
import Derived.RowKit3
import Derived.Deep.LoopGhost
import Derived.Deep.QuietTactic
import Derived.BigQuiet
import Derived.WideLaws
import Derived.Deep.DeepCutAuto
import Derived.Deep.CutBlock
import Derived.Deep.RegionHeld3
import Derived.Laws.Rows
import Derived.Lib.AppendStr
import Derived.ArgAppend
import Derived.Laws.IdiomCopy
import Derived.OrdersHeld
import Derived.Laws.BitsLemmas
import Derived.RowKit
import Derived.Test.YtbkchjiiaehhpaaWWords
import Derived.Test.YtbkchjiiaehhpaaWLast
import Derived.Test.YtbkchjiiaehhpaaWTab
import Derived.Test.YtbkchjiiaehhpaaWFour
import Derived.Test.YtbkchjiiaehhpaaWQPut
import Derived.Test.YtbkchjiiaehhpaaWApart
import Derived.Test.YtbkchjiiaehhpaaWArr
import Derived.Test.YtbkchjiiaehhpaaWZeros
import Derived.Test.YtbkchjiiaehhpaaWFoot
import Derived.Test.YtbkchjiiaehhpaaWKept
import Derived.Test.YtbkchjiiaehhpaaWShare
import Derived.Test.YtbkchjiiaehhpaaWN
import Derived.Test.YtbkchjiiaehhpaaWFootNe
import Derived.Test.YtbkchjiiaehhpaaWAt
import Derived.Test.YtbkchjiiaehhpaaWEqStruct
import Derived.Test.YtbkchjiiaehhpaaWRepsOne
import Derived.Test.YtbkchjiiaehhpaaWInv
import Derived.Test.YtbkchjiiaehhpaaWInvWords
import Derived.Test.YtbkchjiiaehhpaaWGuard
import Derived.Test.YtbkchjiiaehhpaaWNEv
import Derived.Test.YtbkchjiiaehhpaaWMore
import Derived.Test.YtbkchjiiaehhpaaX0Mem
import Derived.Test.YtbkchjiiaehhpaaX1Pure
import Derived.Test.YtbkchjiiaehhpaaXShaRB
namespace Go.Proofs.Ytbkchjiiaehhpaa.Obj
open Go.RowKit Go.Proofs.YtbkchjiiaehhpaaW.PrintWords Go.Proofs.YtbkchjiiaehhpaaW.PrintLast Go.Proofs.YtbkchjiiaehhpaaW.PrintMore
set_option linter.unusedVariables false
set_option linter.unusedSimpArgs false
open Go.Proofs.Ytbkchjiiaehhpaa.PShaH
theorem r8_infoR : (Try.prog.info? 37).map (fun i => (i.zero, i.size, i.bytes)) = some (some (.int .u32 0), 1, 4) := by kernel_rfl
theorem w8A_oneR (s : W8) : (w8A s).all (·.oneCell') = true := by unfold w8A; exact st_one _ _ _ _ _ _ _ _
set_option maxHeartbeats 4000000 in
set_option maxRecDepth 100000 in
theorem sh_start (w : World) : Calls Try.prog 24 #[] w fun e w' => ∃ v, e = .returned v ∧ Kd.R (Kd.int .u32) 37 w' w.heap.size (fun _ => True) v (w8I IV) ∧ Below w.heap.size w w' := by
  have I2 : Aside0 ((Try.prog.info? 100).map (·.size) = some 8) := ⟨by kernel_rfl⟩
  go_enter Try.func24, Try.ntmps24
  go_wp2_with (first
    | (go_at_call 57; (with_reducible refine (sh_begin _).mono ?_); rintro e w1 ⟨rfl, hb⟩; have HB1 := Aside0.mk hb; clear hb; obtain ⟨R, hR⟩ : ∃ R, w8A IV = R := ⟨_, rfl⟩; have HR := Aside0.mk hR; have HS := Aside0.mk (show R.size = 8 by rw [← hR]; rfl); have HO := Aside0.mk (show R.all (·.oneCell') = true by rw [← hR]; exact w8A_oneR _); rw [hR]; clear hR)
    | ((with_reducible refine gate_store (t := 100) (p := 1) (v := .tmp 2) rfl ?_); refine x_arrStore rfl 100 (.tmp 1) (.tmp 2) rfl w1.heap.size _ R rfl rfl (heap_alloc_new _ _) (by rw [HS.out]; exact I2.out) (by rw [HS.out]; try rfl) HO.out ?_; intro W2 hh2 hg2; rw [← HR.out] at hh2; have GH := Aside0.mk hh2; have HB2 := Aside0.mk (below_step HB1.out (arr_below hg2)); clear hh2 hg2)
    | ((with_reducible refine gate_dst (N := 4) rfl ?_); (refine x_append .u32 w.heap.size rfl (.const (.slice none 0 0)) (.tmp 3) 35 37 4 rfl Try.underlying35 r8_infoR (by decide) (.slice none 0 0) [] (w8I IV) (some ⟨w1.heap.size, 0, none⟩) 8 8 rfl rfl (Kd.R_nil _ _ _ _ _) (st_C GH.out) HB2.out HB2.out.size (by simp) ?_); intro v2 W3 ho2 hb2 hg2 hn2; rw [List.nil_append] at ho2; have HO2 := Aside0.mk ho2; have HB3 := Aside0.mk hb2; clear ho2 hb2 hg2 hn2))
  go_ret
  exact ⟨_, rfl, HO2.out, HB3.out⟩
end Go.Proofs.Ytbkchjiiaehhpaa.Obj
