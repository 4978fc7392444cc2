/- Contracts of Go functions that the claims of this seat share. -/
import Derived.Test.YtaoiamifofkklaaProg
import Derived.Below
import Derived.Deep.Draws
import Derived.Deep.AppendLies
import Derived.Maps.AppendAt
import Derived.OwnWalk
import Derived.Laws.BytesArg
import Derived.Laws.MakeOwn
import Derived.Laws.OwnMore
import Derived.Deep.OwnRows
import Derived.Tactics
import Derived.Lib.ConvBytes
import Derived.Laws.Slices
import Derived.WalkKit
import Derived.KernelRfl
import Derived.RowKit3
import Derived.Deep.LoopGhost
import Derived.Deep.QuietTactic
import Derived.BigQuiet
import Derived.WideLaws
import Derived.Deep.DeepCutAuto
import Derived.Deep.CutBlock
import Derived.Deep.RegionHeld3
import Derived.Laws.Rows
import Derived.Lib.AppendStr
import Derived.ArgAppend
import Derived.Laws.IdiomCopy
import Derived.OrdersHeld
import Derived.Laws.BitsLemmas
import Derived.RowKit
import Derived.Test.YtaoiamifofkklaaWWords
import Derived.Test.YtaoiamifofkklaaWLast
import Derived.Test.YtaoiamifofkklaaWTab
import Derived.Test.YtaoiamifofkklaaWFour
import Derived.Test.YtaoiamifofkklaaWQPut
import Derived.Test.YtaoiamifofkklaaWApart
import Derived.Test.YtaoiamifofkklaaWArr
import Derived.Test.YtaoiamifofkklaaWZeros
import Derived.Test.YtaoiamifofkklaaWFoot
import Derived.Test.YtaoiamifofkklaaWKept
import Derived.Test.YtaoiamifofkklaaWShare
import Derived.Test.YtaoiamifofkklaaWN
import Derived.Test.YtaoiamifofkklaaWFootNe
import Derived.Test.YtaoiamifofkklaaWAt
import Derived.Test.YtaoiamifofkklaaWEqStruct
import Derived.Test.YtaoiamifofkklaaWRepsOne
import Derived.Test.YtaoiamifofkklaaWInv
import Derived.Test.YtaoiamifofkklaaWInvWords
import Derived.Test.YtaoiamifofkklaaWGuard
import Derived.Test.YtaoiamifofkklaaWNEv
import Derived.Test.YtaoiamifofkklaaWMore
import Derived.Test.YtaoiamifofkklaaX0Mem
import Derived.Test.YtaoiamifofkklaaX1Pure
import Derived.Test.YtaoiamifofkklaaXFlashE
namespace Go.Proofs.Ytaoiamifofkklaa.Obj
open Go.RowKit Go.Proofs.YtaoiamifofkklaaW.PrintWords Go.Proofs.YtaoiamifofkklaaW.PrintLast Go.Proofs.YtaoiamifofkklaaW.PrintMore
set_option linter.unusedVariables false
set_option linter.unusedSimpArgs false
theorem fl_lenF (B base : Nat) (v : Value) (b : List Int) (is : Bool) (sk m : Int) (dead : Bool) (n : Int) (w : World) (h : Fl w base B v b is sk m dead n) (hl : b.length ≤ 4096) :
    Calls Try.prog 40 #[.pointer (some ⟨B, 0, none⟩)] w fun e w' => e = .returned (.int .i64 b.length) ∧ w' = w := by
  obtain ⟨A, c, rfl, _, _⟩ := h.slice
  exact fl_len B A b.length c w ((blk_cell h.2.1 6).trans rfl) ((blk_cell h.2.1 0).trans rfl) hl
theorem fl_deadF (B base : Nat) (v : Value) (b : List Int) (is : Bool) (sk m : Int) (dead : Bool) (n : Int) (w : World) (h : Fl w base B v b is sk m dead n) :
    Calls Try.prog 29 #[.pointer (some ⟨B, 0, none⟩)] w fun e w' => e = .returned (.bool dead) ∧ w' = w := fl_dead B dead w ((blk_cell h.2.1 6).trans rfl) ((blk_cell h.2.1 4).trans rfl)
theorem fl_writesF (B base : Nat) (v : Value) (b : List Int) (is : Bool) (sk m : Int) (dead : Bool) (n : Int) (w : World) (h : Fl w base B v b is sk m dead n) :
    Calls Try.prog 41 #[.pointer (some ⟨B, 0, none⟩)] w fun e w' => e = .returned (.int .i64 n) ∧ w' = w := fl_writes B n w ((blk_cell h.2.1 6).trans rfl) ((blk_cell h.2.1 5).trans rfl)
theorem both_fl {w0 w : World} {B1 : Nat} {v1 : Value} {is : Bool} {sk m : Int} {b : List Int} {dead : Bool} {n : Int} {B2 : Nat} {v2 : Value} {skip torn : Int} (h : Both w0 w B1 v1 is sk m b dead n B2 v2 skip torn) : Fl w w0.heap.size B1 v1 b is sk m dead n := h.1.1
theorem both_rf {w0 w : World} {B1 : Nat} {v1 : Value} {is : Bool} {sk m : Int} {b : List Int} {dead : Bool} {n : Int} {B2 : Nat} {v2 : Value} {skip torn : Int} (h : Both w0 w B1 v1 is sk m b dead n B2 v2 skip torn) : Rf w w0.heap.size B2 v2 b skip torn dead n := h.1.2.1
theorem both_start {w w3 w4 : World} {B1 B2 N : Nat} {v1 v2 : Value} (hF : Fl w3 w.heap.size B1 v1 (List.replicate N 255) false 0 0 false 0) (hb3 : Below w.heap.size w w3) (hR : Rf w4 w3.heap.size B2 v2 (List.replicate N 255) (-1) 0 false 0) (hb4 : Below w3.heap.size w3 w4) (hN : N ≤ 4096) :
    Both w w4 B1 v1 false 0 0 (List.replicate N 255) false 0 B2 v2 (-1) 0 := by
  have hs := hb3.size
  have q1 := blk_lt hF.2.1
  refine ⟨⟨hF.below hb4, ⟨Nat.le_trans hs hR.1, hR.2.1, Kd.R_lower hR.2.2 hs⟩, ?_, fun j hj e => ?_⟩, marks_none _ _ _, below_step hb3 hb4, by rw [List.length_replicate]; exact hN, by omega, by omega⟩
  · have := hR.1; omega
  · obtain ⟨i1, ho1⟩ := Kd.R_own hF.2.2
    obtain ⟨i2, ho2⟩ := Kd.R_own hR.2.2
    have := own_lt ho1 j e
    have := own_base ho2 j hj
    omega
def FlNext (w0 W : World) (B1 B2 : Nat) (k : Int) : Prop := ∃ (v1 : Value) (is : Bool) (sk m : Int) (b : List Int) (dead : Bool) (n : Int) (v2 : Value) (skip torn : Int), Both w0 W B1 v1 is sk m b dead n B2 v2 skip torn ∧ 0 ≤ n ∧ n ≤ k
theorem readV_all (b : List Int) : readV false b 0 (b.length : Int) = b := by
  have hz : mayV false b.length 0 (b.length : Int) = 0 := by unfold mayV; rw [if_neg (by decide), if_neg (by omega)]
  unfold readV
  rw [if_pos hz]
  simp
end Go.Proofs.Ytaoiamifofkklaa.Obj
