/- Contracts of Go functions that the claims of this seat share. -/
import Derived.Test.YtaoiamifofkklaaProg
import Derived.Below
import Derived.Deep.Draws
import Derived.Deep.AppendLies
import Derived.Maps.AppendAt
import Derived.OwnWalk
import Derived.Laws.BytesArg
import Derived.Laws.MakeOwn
import Derived.Laws.OwnMore
import Derived.Deep.OwnRows
import Derived.Tactics
import Derived.Lib.ConvBytes
import Derived.Laws.Slices
import Derived.WalkKit
import Derived.KernelRfl
import Derived.RowKit3
import Derived.Deep.LoopGhost
import Derived.Deep.QuietTactic
import Derived.BigQuiet
import Derived.WideLaws
import Derived.Deep.DeepCutAuto
import Derived.Deep.CutBlock
import Derived.Deep.RegionHeld3
import Derived.Laws.Rows
import Derived.Lib.AppendStr
import Derived.ArgAppend
import Derived.Laws.IdiomCopy
import Derived.OrdersHeld
import Derived.Laws.BitsLemmas
import Derived.RowKit
import Derived.Test.YtaoiamifofkklaaWWords
import Derived.Test.YtaoiamifofkklaaWLast
import Derived.Test.YtaoiamifofkklaaWTab
import Derived.Test.YtaoiamifofkklaaWFour
import Derived.Test.YtaoiamifofkklaaWQPut
import Derived.Test.YtaoiamifofkklaaWApart
import Derived.Test.YtaoiamifofkklaaWArr
import Derived.Test.YtaoiamifofkklaaWZeros
import Derived.Test.YtaoiamifofkklaaWFoot
import Derived.Test.YtaoiamifofkklaaWKept
import Derived.Test.YtaoiamifofkklaaWShare
import Derived.Test.YtaoiamifofkklaaWN
import Derived.Test.YtaoiamifofkklaaWFootNe
import Derived.Test.YtaoiamifofkklaaWAt
import Derived.Test.YtaoiamifofkklaaWEqStruct
import Derived.Test.YtaoiamifofkklaaWRepsOne
import Derived.Test.YtaoiamifofkklaaWInv
import Derived.Test.YtaoiamifofkklaaWInvWords
import Derived.Test.YtaoiamifofkklaaWGuard
import Derived.Test.YtaoiamifofkklaaWNEv
import Derived.Test.YtaoiamifofkklaaWMore
import Derived.Test.YtaoiamifofkklaaX0Mem
import Derived.Test.YtaoiamifofkklaaX1Pure
import Derived.Test.YtaoiamifofkklaaXBitsB
import Derived.Deep.RegionWith
namespace Go.Proofs.Ytaoiamifofkklaa.Obj
open Go.RowKit Go.Proofs.YtaoiamifofkklaaW.PrintWords Go.Proofs.YtaoiamifofkklaaW.PrintLast Go.Proofs.YtaoiamifofkklaaW.PrintMore
set_option linter.unusedVariables false
set_option linter.unusedSimpArgs false
/-- the w last bits of a number, the highest first -/
def bitsOf (n w : Nat) : List Bool := (List.range w).map fun i => n.testBit (w - 1 - i)
theorem bitsOf_len (n w : Nat) : (bitsOf n w).length = w := by simp [bitsOf]
theorem bitsOf_take (n w i : Nat) (h : i < w) : (bitsOf n w).take (i + 1) = (bitsOf n w).take i ++ [n.testBit (w - 1 - i)] := by
  rw [List.take_succ_eq_append_getElem (by rw [bitsOf_len]; exact h)]
  simp [bitsOf]
theorem test_bit (n k : Nat) (hn : n < 18446744073709551616) : Go.bits .and .u64 ((n : Int) / 2 ^ k) 1 = bitI (n.testBit k) := by
  have hle : n / 2 ^ k ≤ n := Nat.div_le_self _ _
  have e1 : (n : Int) / 2 ^ k = ((BitVec.ofNat 64 (n / 2 ^ k)).toNat : Int) := by
    rw [BitVec.toNat_ofNat, Nat.mod_eq_of_lt (by omega)]; simp
  have e2 : (1 : Int) = ((1#64).toNat : Int) := rfl
  rw [e1, e2, x_and64, BitVec.toNat_and, BitVec.toNat_ofNat, Nat.mod_eq_of_lt (show n / 2 ^ k < 2 ^ 64 by omega), show (1#64).toNat = 1 from rfl, Nat.and_one_is_mod, Nat.testBit_eq_decide_div_mod_eq]
  unfold bitI
  rcases Nat.mod_two_eq_zero_or_one (n / 2 ^ k) with h | h <;> rw [h] <;> rfl
theorem bits_step (n wd j : Nat) (l : List Bool) (h : j + 1 ≤ wd) : l ++ (bitsOf n wd).take (wd - j) = (l ++ (bitsOf n wd).take (wd - (j + 1))) ++ [n.testBit j] := by
  have e := bitsOf_take n wd (wd - (j + 1)) (by omega)
  rw [show wd - (j + 1) + 1 = wd - j by omega, show wd - 1 - (wd - (j + 1)) = j by omega] at e
  rw [e, List.append_assoc]
set_option maxHeartbeats 4000000 in
set_option maxRecDepth 100000 in
theorem bt_put (B base : Nat) (v : Value) (l : List Bool) (n wd : Nat) (w : World) (h : WrL w base B v l) (hw : wd ≤ 64) (hn : n < 18446744073709551616) (hz : wd < 64 → n / 2 ^ wd = 0) (hl : l.length + wd ≤ 8192) :
    Calls Try.prog 15 #[.pointer (some ⟨B, 0, none⟩), .int .u64 n, .int .i64 wd] w fun e w' => ∃ v', e = .returned (.int .i64 0) ∧ WrL w' base B v' (l ++ bitsOf n wd) ∧ Mv B v w v' w' ∧ Below base w w' := by
  have hu := Try.underlying105
  have hu2 := Try.underlying103
  have g1 := (blk_cell h.2.1 1).trans rfl
  have g2 := (blk_cell h.2.1 2).trans rfl
  have hroom := bt_room B wd l.length w g1 (by omega)
  rw [decide_eq_true (by omega)] at hroom
  have HN := Aside0.mk (bt_none B w g2)
  have HROOM := Aside0.mk hroom
  have HW := Aside0.mk h
  clear h hroom g1 g2
  by_cases h64 : wd < 64
  · have hz' : ((n : Int) / 2 ^ wd != 0) = false := by
      have := hz h64
      rw [bne_eq_false_iff_eq]
      have e : (n : Int) / 2 ^ wd = ((n / 2 ^ wd : Nat) : Int) := by simp
      rw [e, this]; rfl
    clear hz
    go_enter Try.func15, Try.ntmps15
    go_wp2_with (first
      | (go_at_call 67; refine HN.out.mono ?_; rintro e w1 ⟨rfl, hw1⟩; obtain rfl : w = w1 := hw1.symm)
      | (go_at_call 68; refine HROOM.out.mono ?_; rintro e w1 ⟨rfl, hw1⟩; obtain rfl : w = w1 := hw1.symm))
    go_loopw [7] (fun v7 wr => ∃ k : Nat, k ≤ wd ∧ v7 = .int .i64 ((k : Int) - 1) ∧ ∃ vr, Aside0 (WrL wr base B vr (l ++ (bitsOf n wd).take (wd - k))) ∧ Aside0 (Mv B v w vr wr) ∧ Aside0 (Below base w wr)) (fun v7 _ => (intOf v7 + 1).toNat)
    case atStart => exact ⟨wd, Nat.le_refl _, rfl, v, by simpa using HW, ⟨Mv.refl _ _ _⟩, ⟨Below.refl _ _⟩⟩
    case round =>
      obtain ⟨k, hk, rfl, vr, KW, KM, KB⟩ := hrel
      rcases k with _ | j
      · go_wp2
        go_ret
        refine ⟨vr, rfl, ?_, KM.out, KB.out⟩
        have q := KW.out
        rwa [Nat.sub_zero, List.take_of_length_le (by rw [bitsOf_len]; exact Nat.le_refl _)] at q
      · have e1 : ((j + 1 : Nat) : Int) - 1 = (j : Int) := by omega
        rw [e1]
        clear e1
        go_wp2
        go_region_with (go_at_call 69; refine (bt_push B base vr (l ++ (bitsOf n wd).take (wd - (j + 1))) (n.testBit j) _ _ KW.out.drew (test_bit n j hn) (by rw [List.length_append, List.length_take, bitsOf_len]; omega)).mono ?_; rintro e w2 ⟨v2, ⟨vv, rfl⟩, hW2, hM2, hB2⟩; have HW2 := Aside0.mk hW2; have HM2 := Aside0.mk hM2; have HB2 := Aside0.mk hB2; clear hW2 hM2 hB2)
        go_wp2
        go_roundw
        case rel => exact ⟨j, by omega, rfl, v2, ⟨by rw [bits_step n wd j l hk]; exact HW2.out⟩, ⟨KM.out.trans (Mv.trans (Mv.refl _ _ _).drew HM2.out)⟩, ⟨KB.out.trans ((Below.refl _ _).drew.trans HB2.out)⟩⟩
        case measure => simp [intOf]
  · clear hz
    go_enter Try.func15, Try.ntmps15
    go_wp2_with (first
      | (go_at_call 67; refine HN.out.mono ?_; rintro e w1 ⟨rfl, hw1⟩; obtain rfl : w = w1 := hw1.symm)
      | (go_at_call 68; refine HROOM.out.mono ?_; rintro e w1 ⟨rfl, hw1⟩; obtain rfl : w = w1 := hw1.symm))
    go_loopw [7] (fun v7 wr => ∃ k : Nat, k ≤ wd ∧ v7 = .int .i64 ((k : Int) - 1) ∧ ∃ vr, Aside0 (WrL wr base B vr (l ++ (bitsOf n wd).take (wd - k))) ∧ Aside0 (Mv B v w vr wr) ∧ Aside0 (Below base w wr)) (fun v7 _ => (intOf v7 + 1).toNat)
    case atStart => exact ⟨wd, Nat.le_refl _, rfl, v, by simpa using HW, ⟨Mv.refl _ _ _⟩, ⟨Below.refl _ _⟩⟩
    case round =>
      obtain ⟨k, hk, rfl, vr, KW, KM, KB⟩ := hrel
      rcases k with _ | j
      · go_wp2
        go_ret
        refine ⟨vr, rfl, ?_, KM.out, KB.out⟩
        have q := KW.out
        rwa [Nat.sub_zero, List.take_of_length_le (by rw [bitsOf_len]; exact Nat.le_refl _)] at q
      · have e1 : ((j + 1 : Nat) : Int) - 1 = (j : Int) := by omega
        rw [e1]
        clear e1
        go_wp2
        go_region_with (go_at_call 69; refine (bt_push B base vr (l ++ (bitsOf n wd).take (wd - (j + 1))) (n.testBit j) _ _ KW.out.drew (test_bit n j hn) (by rw [List.length_append, List.length_take, bitsOf_len]; omega)).mono ?_; rintro e w2 ⟨v2, ⟨vv, rfl⟩, hW2, hM2, hB2⟩; have HW2 := Aside0.mk hW2; have HM2 := Aside0.mk hM2; have HB2 := Aside0.mk hB2; clear hW2 hM2 hB2)
        go_wp2
        go_roundw
        case rel => exact ⟨j, by omega, rfl, v2, ⟨by rw [bits_step n wd j l hk]; exact HW2.out⟩, ⟨KM.out.trans (Mv.trans (Mv.refl _ _ _).drew HM2.out)⟩, ⟨KB.out.trans ((Below.refl _ _).drew.trans HB2.out)⟩⟩
        case measure => simp [intOf]
end Go.Proofs.Ytaoiamifofkklaa.Obj
