/- Contracts of Go functions that the claims of this seat share. -/
import Derived.Test.YtaoiamifofkklaaProg
import Derived.Below
import Derived.Deep.Draws
import Derived.Deep.AppendLies
import Derived.Maps.AppendAt
import Derived.OwnWalk
import Derived.Laws.BytesArg
import Derived.Laws.MakeOwn
import Derived.Laws.OwnMore
import Derived.Deep.OwnRows
import Derived.Tactics
import Derived.Lib.ConvBytes
import Derived.Laws.Slices
import Derived.WalkKit
import Derived.KernelRfl
import Derived.RowKit3
import Derived.Deep.LoopGhost
import Derived.Deep.QuietTactic
import Derived.BigQuiet
import Derived.WideLaws
import Derived.Deep.DeepCutAuto
import Derived.Deep.CutBlock
import Derived.Deep.RegionHeld3
import Derived.Laws.Rows
import Derived.Lib.AppendStr
import Derived.ArgAppend
import Derived.Laws.IdiomCopy
import Derived.OrdersHeld
import Derived.Laws.BitsLemmas
import Derived.RowKit
import Derived.Test.YtaoiamifofkklaaWWords
import Derived.Test.YtaoiamifofkklaaWLast
import Derived.Test.YtaoiamifofkklaaWTab
import Derived.Test.YtaoiamifofkklaaWFour
import Derived.Test.YtaoiamifofkklaaWQPut
import Derived.Test.YtaoiamifofkklaaWApart
import Derived.Test.YtaoiamifofkklaaWArr
import Derived.Test.YtaoiamifofkklaaWZeros
import Derived.Test.YtaoiamifofkklaaWFoot
import Derived.Test.YtaoiamifofkklaaWKept
import Derived.Test.YtaoiamifofkklaaWShare
import Derived.Test.YtaoiamifofkklaaWN
import Derived.Test.YtaoiamifofkklaaWFootNe
import Derived.Test.YtaoiamifofkklaaWAt
import Derived.Test.YtaoiamifofkklaaWEqStruct
import Derived.Test.YtaoiamifofkklaaWRepsOne
import Derived.Test.YtaoiamifofkklaaWInv
import Derived.Test.YtaoiamifofkklaaWInvWords
import Derived.Test.YtaoiamifofkklaaWGuard
import Derived.Test.YtaoiamifofkklaaWNEv
import Derived.Test.YtaoiamifofkklaaWMore
import Derived.Test.YtaoiamifofkklaaX0Mem
import Derived.Test.YtaoiamifofkklaaX1Pure
import Derived.Test.YtaoiamifofkklaaXBitsL
namespace Go.Proofs.Ytaoiamifofkklaa.Obj
open Go.RowKit Go.Proofs.YtaoiamifofkklaaW.PrintWords Go.Proofs.YtaoiamifofkklaaW.PrintLast Go.Proofs.YtaoiamifofkklaaW.PrintMore
set_option linter.unusedVariables false
set_option linter.unusedSimpArgs false
/-- what Put answers at len bits -/
def wE (len n : Nat) (x : Int) : Int := if x < 0 ∨ 64 < x ∨ (x < 64 ∧ n / 2 ^ x.toNat ≠ 0) then 1 else if (8192 : Int) < (len : Int) + x then 2 else 0
def wL (l : List Bool) (n : Nat) (x : Int) : List Bool := if wE l.length n x = 0 then l ++ bitsOf n x.toNat else l
theorem wE_zero {len n : Nat} {x : Int} (h : wE len n x = 0) : 0 ≤ x ∧ x ≤ 64 ∧ (x < 64 → n / 2 ^ x.toNat = 0) ∧ (len : Int) + x ≤ 8192 := by
  unfold wE at h
  by_cases h1 : x < 0 ∨ 64 < x ∨ (x < 64 ∧ n / 2 ^ x.toNat ≠ 0)
  · rw [if_pos h1] at h; cases h
  · rw [if_neg h1] at h
    by_cases h2 : (8192 : Int) < (len : Int) + x
    · rw [if_pos h2] at h; cases h
    · refine ⟨by omega, by omega, fun h3 => ?_, by omega⟩
      apply Classical.byContradiction
      intro h4
      exact h1 (.inr (.inr ⟨h3, h4⟩))
theorem wL_le {l : List Bool} {n : Nat} {x : Int} (h : l.length ≤ 8192) : (wL l n x).length ≤ 8192 := by
  unfold wL
  by_cases hz : wE l.length n x = 0
  · rw [if_pos hz, List.length_append, bitsOf_len]
    have := wE_zero hz
    omega
  · rw [if_neg hz]; exact h
set_option maxHeartbeats 4000000 in
set_option maxRecDepth 100000 in
theorem bt_putF (B base : Nat) (v : Value) (l : List Bool) (n : Nat) (x : Int) (w : World) (h : WrL w base B v l) (hn : n < 18446744073709551616) (hl : l.length ≤ 8192) :
    Calls Try.prog 15 #[.pointer (some ⟨B, 0, none⟩), .int .u64 n, .int .i64 x] w fun e w' => ∃ v', e = .returned (.int .i64 (wE l.length n x)) ∧ WrL w' base B v' (wL l n x) ∧ Mv B v w v' w' ∧ Below base w w' := by
  by_cases hz : wE l.length n x = 0
  · obtain ⟨h0, h1, h2, h3⟩ := wE_zero hz
    obtain ⟨x, rfl⟩ : ∃ q : Nat, x = (q : Int) := ⟨x.toNat, by omega⟩
    have hw : wL l n (x : Int) = l ++ bitsOf n x := by unfold wL; rw [if_pos hz, Int.toNat_natCast]
    rw [hz, hw]
    rw [Int.toNat_natCast] at h2
    exact bt_put B base v l n x w h (by omega) hn (fun q => h2 (by omega)) (by omega)
  · have hw : wL l n x = l := by unfold wL; rw [if_neg hz]
    rw [hw]
    have hu := Try.underlying105
    have g1 := (blk_cell h.2.1 1).trans rfl
    have g2 := (blk_cell h.2.1 2).trans rfl
    have HN := Aside0.mk (bt_none B w g2)
    have hroom := bt_room B x l.length w g1 (by omega)
    have HW := Aside0.mk h
    by_cases hx : x < 0
    · have he : wE l.length n x = 1 := by unfold wE; rw [if_pos (.inl hx)]
      rw [he]
      clear hw hz h g1 g2 he hroom
      go_enter Try.func15, Try.ntmps15
      go_wp2_with (go_at_call 67; refine HN.out.mono ?_; rintro e w1 ⟨rfl, hw1⟩; obtain rfl : w = w1 := hw1.symm)
      go_ret
      first | exact ⟨v, rfl, HW.out, Mv.refl _ _ _, Below.refl _ _⟩ | exact ⟨rfl, v, HW.out, Mv.refl _ _ _, Below.refl _ _⟩
    · by_cases h64 : 64 < x
      · have he : wE l.length n x = 1 := by unfold wE; rw [if_pos (.inr (.inl h64))]
        rw [he]
        clear hw hz h g1 g2 he hroom
        go_enter Try.func15, Try.ntmps15
        go_wp2_with (go_at_call 67; refine HN.out.mono ?_; rintro e w1 ⟨rfl, hw1⟩; obtain rfl : w = w1 := hw1.symm)
        go_ret
        first | exact ⟨v, rfl, HW.out, Mv.refl _ _ _, Below.refl _ _⟩ | exact ⟨rfl, v, HW.out, Mv.refl _ _ _, Below.refl _ _⟩
      · obtain ⟨x, rfl⟩ : ∃ q : Nat, x = (q : Int) := ⟨x.toNat, by omega⟩
        have hw64 : x ≤ 64 := by omega
        have e : (n : Int) / 2 ^ x = ((n / 2 ^ x : Nat) : Int) := by simp
        by_cases hs : x < 64 ∧ n / 2 ^ x ≠ 0
        · have he : wE l.length n (x : Int) = 1 := by unfold wE; rw [if_pos (.inr (.inr ⟨by omega, by rw [Int.toNat_natCast]; exact hs.2⟩))]
          rw [he]
          have hx64 := hs.1
          have hz' : ((n : Int) / 2 ^ x != 0) = true := by
            rw [bne_iff_ne, e]; have := hs.2; omega
          clear hw hz h g1 g2 he hroom hs e hx h64
          go_enter Try.func15, Try.ntmps15
          go_wp2_with (go_at_call 67; refine HN.out.mono ?_; rintro e w1 ⟨rfl, hw1⟩; obtain rfl : w = w1 := hw1.symm)
          go_ret
          first | exact ⟨v, rfl, HW.out, Mv.refl _ _ _, Below.refl _ _⟩ | exact ⟨rfl, v, HW.out, Mv.refl _ _ _, Below.refl _ _⟩
        · have hlong : (8192 : Int) < (l.length : Int) + x := by
            apply Classical.byContradiction
            intro hc
            apply hz
            unfold wE
            rw [if_neg (by rintro (q | q | q) <;> first | omega | exact hs ⟨by omega, by have := q.2; rwa [Int.toNat_natCast] at this⟩), if_neg hc]
          have he : wE l.length n (x : Int) = 2 := by
            unfold wE
            rw [if_neg (by rintro (q | q | q) <;> first | omega | exact hs ⟨by omega, by have := q.2; rwa [Int.toNat_natCast] at this⟩), if_pos hlong]
          rw [he]
          rw [decide_eq_false (by omega)] at hroom
          have HROOM := Aside0.mk hroom
          by_cases hx64 : x < 64
          · have hz' : ((n : Int) / 2 ^ x != 0) = false := by
              rw [bne_eq_false_iff_eq, e]
              have : n / 2 ^ x = 0 := Classical.byContradiction fun q => hs ⟨hx64, q⟩
              rw [this]; rfl
            clear hw hz h g1 g2 he hroom hs e hx h64 hlong
            go_enter Try.func15, Try.ntmps15
            go_wp2_with (first
              | (go_at_call 67; refine HN.out.mono ?_; rintro e w1 ⟨rfl, hw1⟩; obtain rfl : w = w1 := hw1.symm)
              | (go_at_call 68; refine HROOM.out.mono ?_; rintro e w1 ⟨rfl, hw1⟩; obtain rfl : w = w1 := hw1.symm))
            go_ret
            first | exact ⟨v, rfl, HW.out, Mv.refl _ _ _, Below.refl _ _⟩ | exact ⟨rfl, v, HW.out, Mv.refl _ _ _, Below.refl _ _⟩
          · clear hw hz h g1 g2 he hroom hs e hx h64 hlong
            go_enter Try.func15, Try.ntmps15
            go_wp2_with (first
              | (go_at_call 67; refine HN.out.mono ?_; rintro e w1 ⟨rfl, hw1⟩; obtain rfl : w = w1 := hw1.symm)
              | (go_at_call 68; refine HROOM.out.mono ?_; rintro e w1 ⟨rfl, hw1⟩; obtain rfl : w = w1 := hw1.symm))
            go_ret
            first | exact ⟨v, rfl, HW.out, Mv.refl _ _ _, Below.refl _ _⟩ | exact ⟨rfl, v, HW.out, Mv.refl _ _ _, Below.refl _ _⟩
set_option maxHeartbeats 4000000 in
set_option maxRecDepth 100000 in
theorem rv_putF (B base : Nat) (v : Value) (l : List Bool) (n : Nat) (x : Int) (w : World) (h : Wv w base B v l) (hn : n < 18446744073709551616) (hl : l.length ≤ 8192) (hxw : -9223372036854775808 ≤ x ∧ x ≤ 9223372036854775807) :
    Calls Try.prog 16 #[.pointer (some ⟨B, 0, none⟩), .int .u64 n, .int .i64 x] w fun e w' => ∃ v', e = .returned (.int .i64 (wE l.length n x)) ∧ Wv w' base B v' (wL l n x) ∧ Mv B v w v' w' ∧ Below base w w' := by
  by_cases hz : wE l.length n x = 0
  · obtain ⟨h0, h1, h2, h3⟩ := wE_zero hz
    obtain ⟨x, rfl⟩ : ∃ q : Nat, x = (q : Int) := ⟨x.toNat, by omega⟩
    have hw : wL l n (x : Int) = l ++ bitsOf n x := by unfold wL; rw [if_pos hz, Int.toNat_natCast]
    rw [hz, hw]
    rw [Int.toNat_natCast] at h2
    exact rv_put0 B base v l n x w h (by omega) hn (fun q => h2 (by omega)) (by omega)
  · have hw : wL l n x = l := by unfold wL; rw [if_neg hz]
    rw [hw]
    have hu := Try.underlying30
    have HW := Aside0.mk h
    by_cases hx : x < 0
    · have he : wE l.length n x = 1 := by unfold wE; rw [if_pos (.inl hx)]
      rw [he]
      clear hw hz h he
      go_enter Try.func16, Try.ntmps16
      go_wp2
      go_ret
      first | exact ⟨v, rfl, HW.out, Mv.refl _ _ _, Below.refl _ _⟩ | exact ⟨rfl, v, HW.out, Mv.refl _ _ _, Below.refl _ _⟩
    · by_cases h64 : 64 < x
      · have he : wE l.length n x = 1 := by unfold wE; rw [if_pos (.inr (.inl h64))]
        rw [he]
        clear hw hz h he
        go_enter Try.func16, Try.ntmps16
        go_wp2
        go_ret
        first | exact ⟨v, rfl, HW.out, Mv.refl _ _ _, Below.refl _ _⟩ | exact ⟨rfl, v, HW.out, Mv.refl _ _ _, Below.refl _ _⟩
      · obtain ⟨x, rfl⟩ : ∃ q : Nat, x = (q : Int) := ⟨x.toNat, by omega⟩
        have hw64 : x ≤ 64 := by omega
        have e : (n : Int) / 2 ^ x = ((n / 2 ^ x : Nat) : Int) := by simp
        by_cases hs : x < 64 ∧ n / 2 ^ x ≠ 0
        · have he : wE l.length n (x : Int) = 1 := by unfold wE; rw [if_pos (.inr (.inr ⟨by omega, by rw [Int.toNat_natCast]; exact hs.2⟩))]
          rw [he]
          have hx64 := hs.1
          have hz' : ((n : Int) / 2 ^ x != 0) = true := by
            rw [bne_iff_ne, e]; have := hs.2; omega
          clear hw hz h he hs e hx h64
          go_enter Try.func16, Try.ntmps16
          go_wp2
          go_ret
          first | exact ⟨v, rfl, HW.out, Mv.refl _ _ _, Below.refl _ _⟩ | exact ⟨rfl, v, HW.out, Mv.refl _ _ _, Below.refl _ _⟩
        · have hlong : (8192 : Int) < (l.length : Int) + x := by
            apply Classical.byContradiction
            intro hc
            apply hz
            unfold wE
            rw [if_neg (by rintro (q | q | q) <;> first | omega | exact hs ⟨by omega, by have := q.2; rwa [Int.toNat_natCast] at this⟩), if_neg hc]
          have he : wE l.length n (x : Int) = 2 := by
            unfold wE
            rw [if_neg (by rintro (q | q | q) <;> first | omega | exact hs ⟨by omega, by have := q.2; rwa [Int.toNat_natCast] at this⟩), if_pos hlong]
          rw [he]
          obtain ⟨A0, cap, rfl, hlc, hC⟩ := Kd.R_reads h.2.2
          have g0 := (blk_cell h.2.1 0).trans rfl
          by_cases hx64 : x < 64
          · have hz' : ((n : Int) / 2 ^ x != 0) = false := by
              rw [bne_eq_false_iff_eq, e]
              have : n / 2 ^ x = 0 := Classical.byContradiction fun q => hs ⟨hx64, q⟩
              rw [this]; rfl
            clear hw hz h he hs e hx h64 hC hlc
            go_enter Try.func16, Try.ntmps16
            go_wp2
            go_ret
            first | exact ⟨_, rfl, HW.out, Mv.refl _ _ _, Below.refl _ _⟩ | exact ⟨rfl, _, HW.out, Mv.refl _ _ _, Below.refl _ _⟩
          · clear hw hz h he hs e hx h64 hC hlc
            go_enter Try.func16, Try.ntmps16
            go_wp2
            go_ret
            first | exact ⟨_, rfl, HW.out, Mv.refl _ _ _, Below.refl _ _⟩ | exact ⟨rfl, _, HW.out, Mv.refl _ _ _, Below.refl _ _⟩
end Go.Proofs.Ytaoiamifofkklaa.Obj
