/- Contracts of Go functions that the claims of this seat share. -/
import Derived.Test.YtaoiamifofkklaaProg
import Derived.Below
import Derived.Deep.Draws
import Derived.Deep.AppendLies
import Derived.Maps.AppendAt
import Derived.OwnWalk
import Derived.Laws.BytesArg
import Derived.Laws.MakeOwn
import Derived.Laws.OwnMore
import Derived.Deep.OwnRows
import Derived.Tactics
import Derived.Lib.ConvBytes
import Derived.Laws.Slices
import Derived.WalkKit
import Derived.KernelRfl
import Derived.RowKit3
import Derived.Deep.LoopGhost
import Derived.Deep.QuietTactic
import Derived.BigQuiet
import Derived.WideLaws
import Derived.Deep.DeepCutAuto
import Derived.Deep.CutBlock
import Derived.Deep.RegionHeld3
import Derived.Laws.Rows
import Derived.Lib.AppendStr
import Derived.ArgAppend
import Derived.Laws.IdiomCopy
import Derived.OrdersHeld
import Derived.Laws.BitsLemmas
import Derived.RowKit
import Derived.Lib.OthersKept
import Derived.Test.YtaoiamifofkklaaWWords
import Derived.Test.YtaoiamifofkklaaWLast
import Derived.Test.YtaoiamifofkklaaWTab
import Derived.Test.YtaoiamifofkklaaWFour
import Derived.Test.YtaoiamifofkklaaWQPut
import Derived.Test.YtaoiamifofkklaaWApart
import Derived.Test.YtaoiamifofkklaaWArr
import Derived.Test.YtaoiamifofkklaaWZeros
import Derived.Test.YtaoiamifofkklaaWFoot
import Derived.Test.YtaoiamifofkklaaWKept
import Derived.Test.YtaoiamifofkklaaWShare
import Derived.Test.YtaoiamifofkklaaWN
import Derived.Test.YtaoiamifofkklaaWFootNe
import Derived.Test.YtaoiamifofkklaaWAt
import Derived.Test.YtaoiamifofkklaaWEqStruct
import Derived.Test.YtaoiamifofkklaaWRepsOne
import Derived.Test.YtaoiamifofkklaaWInv
import Derived.Test.YtaoiamifofkklaaWInvWords
import Derived.Test.YtaoiamifofkklaaWGuard
import Derived.Test.YtaoiamifofkklaaWNEv
import Derived.Test.YtaoiamifofkklaaWMore
import Derived.Test.YtaoiamifofkklaaX0Mem
import Derived.Test.YtaoiamifofkklaaX1Pure
import Derived.Test.YtaoiamifofkklaaXShaG
namespace Go.Proofs.Ytaoiamifofkklaa.Obj
open Go.RowKit Go.Proofs.YtaoiamifofkklaaW.PrintWords Go.Proofs.YtaoiamifofkklaaW.PrintLast Go.Proofs.YtaoiamifofkklaaW.PrintMore
set_option linter.unusedVariables false
set_option linter.unusedSimpArgs false
open Go.Proofs.Ytaoiamifofkklaa.PShaH
theorem dg_arg {w0 w : World} {A : Option Addr} {m : Nat} {xs : List Int} {base D : Nat} {v : Value} {s : W8} {left : List Int} {n : Nat} (h : Kd.C (Kd.int .u8) w0 A m xs) (hb : Below w0.heap.size w0 w) (hD : Dg w base D v s left n) (hle : w0.heap.size ≤ base) :
    ∀ W', KeepBut w W' D none → Kd.C (Kd.int .u8) W' A m xs := by
  intro W' hk
  refine Kd.C_kept_came (Kd.heap_int .u8) h hb (S := fun k => k = D ∨ some k = none) ?_ W' ⟨hk.1, fun i hi hn => hk.2 i hi (fun e => hn (.inl e)) (fun e => hn (.inr e))⟩
  rintro k (rfl | hk)
  · exact Nat.le_trans hle hD.1
  · cases hk
def tailL (l : List Int) : List Int := l.drop (64 * (l.length / 64))
def endL (l : List Int) : List Int := padL (tailL l) ++ bytesBE 8 (8 * (l.length : Int))
def digP (l : List Int) : List Int := w8B (foldN ((endL l).length / 64) (endL l) (foldN (l.length / 64) l IV))
set_option maxHeartbeats 8000000 in
set_option maxRecDepth 100000 in
theorem sh_of (A : Option Addr) (m c : Nat) (l : List Int) (w : World) (hC : Kd.C (Kd.int .u8) w A m l) (hx : IsB l) (hmc : m ≤ c) (hm : m ≤ 1048576) :
    Calls Try.prog 81 #[.slice A m c] w fun e w' => ∃ v, e = .returned (.tuple #[v, .int .i64 0]) ∧ Kd.R (Kd.int .u8) 5 w' w.heap.size (fun _ => True) v (digP l) ∧ Below w.heap.size w w' := by
  have HC := Aside0.mk hC
  have HX := Aside0.mk hx
  have HMC := Aside0.mk hmc
  have HM := Aside0.mk hm
  have HL := Aside0.mk hC.1
  have HT : Aside0 ((l.drop (64 * (m / 64))).length < 64) := ⟨by rw [List.length_drop, hC.1]; omega⟩
  clear hC hx hmc hm
  go_enter Try.func81, Try.ntmps81
  go_wp2_with (first
    | (go_at_call 89; (with_reducible refine (sh_new _).mono ?_); rintro e w1 ⟨D, rfl, hd, hb⟩; have HD1 := Aside0.mk hd; have HB1 := Aside0.mk hb; clear hd hb)
    | (go_at_call 90; (with_reducible refine (sh_write0 D w.heap.size IV 0 m c A l _ HD1.out (dg_arg HC.out HB1.out HD1.out (Nat.le_refl _)) HX.out HMC.out (by have := HM.out; omega)).mono ?_); rintro e w2 ⟨v2, rfl, hd, _, _, hb⟩; have HD2 := Aside0.mk hd; have HB2 := Aside0.mk (HB1.out.trans hb); clear hd hb)
    | (go_at_call 91; (with_reducible refine (sh_sum D w.heap.size v2 _ _ (0 + m) _ HD2.out HT.out (by have := HM.out; omega) (HX.out.drop _)).mono ?_); rintro e w3 ⟨v3, rfl, hR, hb⟩; have HR := Aside0.mk (Kd.R_lower hR HB2.out.size); have HB3 := Aside0.mk (below_step HB2.out hb); clear hR hb))
  go_ret2
  refine ⟨v3, rfl, ?_, HB3.out⟩
  have h := HR.out
  unfold digP endL tailL
  rw [HL.out]
  rw [Nat.zero_add] at h
  exact h
theorem sh_write_long (D base : Nat) (v : Value) (s : W8) (left : List Int) (n m c : Nat) (A : Option Addr) (w : World) (h : Dg w base D v s left n) (hn : n ≤ 1048576) (hm : 1048576 < n + m) (hmm : m ≤ 140737488351232) :
    Calls Try.prog 90 #[.pointer (some ⟨D, 0, none⟩), .slice A m c] w fun e w' => e = .returned (.int .i64 2) ∧ w' = w := by
  have hu := Try.underlying141
  have g10 := (blk_cell h.2.1 10).trans rfl
  have g9 := (blk_cell h.2.1 9).trans rfl
  have hnm : 1048576 - (n : Int) < (m : Int) := by omega
  clear h
  go_enter Try.func90, Try.ntmps90
  go_wp2_with (go_at_call 101; (with_reducible refine (sh_none D _ g10).mono ?_); rintro e w ⟨rfl, rfl⟩)
  go_ret
  exact ⟨rfl, rfl⟩
set_option maxHeartbeats 8000000 in
set_option maxRecDepth 100000 in
theorem sh_of_long (A : Option Addr) (m c : Nat) (w : World) (hm : 1048576 < m) (hmm : m ≤ 140737488351232) :
    Calls Try.prog 81 #[.slice A m c] w fun e w' => e = .returned (.tuple #[.slice none 0 0, .int .i64 2]) ∧ Below w.heap.size w w' := by
  have HM := Aside0.mk hm
  have HMM := Aside0.mk hmm
  clear hm
  go_enter Try.func81, Try.ntmps81
  go_wp2_with (first
    | (go_at_call 89; (with_reducible refine (sh_new _).mono ?_); rintro e w1 ⟨D, rfl, hd, hb⟩; have HD1 := Aside0.mk hd; have HB1 := Aside0.mk hb; clear hd hb)
    | (go_at_call 90; (with_reducible refine (sh_write_long D w.heap.size _ IV [] 0 m c A _ HD1.out (by decide) (by have := HM.out; omega) HMM.out).mono ?_); rintro e w2 ⟨rfl, rfl⟩))
  go_ret2
  exact ⟨rfl, HB1.out⟩
end Go.Proofs.Ytaoiamifofkklaa.Obj
